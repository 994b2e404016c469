/- What the claim stands on, part 13: rules of the walk, contracts of the functions, plain laws. -/
import Derived.Test.YtnfeemhpoaflfaaGreatDoorKFits5
import Derived.Sort.Walk0
import Derived.Test.YtnfeemhpoaflfaaGreatDoorKFits12
import Derived.Shelf.SlicesE.Index
import Derived.Test.YtnfeemhpoaflfaaGreatDoorProg
import Derived.Test.YtnfeemhpoaflfaaGreatDoorKFits10
import Derived.Test.YtnfeemhpoaflfaaGreatDoorKFits6
import Derived.Test.YtnfeemhpoaflfaaGreatDoorKFits9
set_option linter.unusedVariables false
namespace Go.Q
def AccM.cells (a : AccM) : List Value := [.string (str a.name), i64 a.amt, .string (str a.own)]
theorem AccM.one (a : AccM) : oneCells a.cells = true := rfl
def posS (S : List AccM) (n : List UInt8) : Nat := (S.takeWhile fun a => decide (a.name < n)).length
def hasS (S : List AccM) (n : List UInt8) : Bool := match S[posS S n]? with | some a => a.name == n | none => false
/-- An element of one's own row is changed in one cell. -/
theorem flat_setT {α : Type} {f : α → List Value} {sz : Nat} (hf : ∀ x, (f x).length = sz) {o : Nat} {u : Value} {y : α} (ho : o < sz) :
    ∀ {l : List α} {i : Nat} {x : α}, l[i]? = some x → f y = (f x).set o u → (l.flatMap f).set (i * sz + o) u = (l.set i y).flatMap f
  | [], _, _, h, _ => by cases h
  | z :: l, 0, x, h, hy => by
    simp only [List.getElem?_cons_zero, Option.some.injEq] at h
    subst h
    rw [List.flatMap_cons, List.set_cons_zero, List.flatMap_cons, Nat.zero_mul, Nat.zero_add, List.set_append_left _ _ (by rw [hf]; exact ho), hy]
  | z :: l, i + 1, x, h, hy => by
    rw [List.getElem?_cons_succ] at h
    rw [List.flatMap_cons, List.set_cons_succ, List.flatMap_cons, List.set_append_right _ _ (by rw [hf, Nat.add_mul]; omega), hf, show (i + 1) * sz + o - sz = i * sz + o from by rw [Nat.add_mul]; omega, flat_setT hf ho h hy]
/-- An own row is opened at an element: its block, what lies there, and what may be stored. -/
theorem OwnT.open {α : Type} {f : α → List Value} {sz : Nat} (hf : ∀ x, (f x).length = sz) (h0 : 0 < sz) {w : World} {base e i c : Nat} {A : Option Addr} {l : List α} {x : α} (hx : l[i]? = some x) (h : OwnT w base e sz f (.slice A l.length c) l) :
    ∃ g cur, A = some ⟨g, 0, none⟩ ∧ base ≤ g ∧ Has w g (rowL cur e) ∧ i * sz + sz ≤ cur.length ∧ (∀ j u, (f x)[j]? = some u → cur[i * sz + j]? = some u) ∧
      ∀ (o : Nat) (u : Value) (y : α), o < sz → f y = (f x).set o u → ∀ w', Has w' g (rowL (cur.set (i * sz + o) u) e) → OwnT w' base e sz f (.slice A l.length c) (l.set i y) := by
  obtain ⟨hl, h⟩ := h
  have hi := (List.getElem?_eq_some_iff.1 hx).1
  have him : i * sz + sz ≤ l.length * sz := by rw [← Nat.succ_mul]; exact Nat.mul_le_mul_right _ hi
  rcases h with ⟨_, h0'⟩ | ⟨g, cap, cur, hv, hg, hh, h1, h2, h3, h4⟩
  · exfalso
    rw [flat_len hf] at hl
    have hz : (l.flatMap f).length = 0 := by rw [flat_len hf]; omega
    omega
  · simp only [Value.slice.injEq] at hv
    obtain ⟨rfl, _, rfl⟩ := hv
    have hcl : cur.toList.length = c * sz := by simpa using h3
    have hlc : l.length * sz ≤ c * sz := Nat.mul_le_mul_right _ h1
    refine ⟨g, cur.toList, rfl, hg, by unfold Has; rw [hh], by omega, fun j u hu => ?_, fun o u y ho hy w' H => ?_⟩
    · have hj := (List.getElem?_eq_some_iff.1 hu).1
      rw [hf] at hj
      have := flat_at hf hx j u hu
      rw [← h4, List.getElem?_take_of_lt (by omega)] at this
      exact this
    · have hset : (l.set i y).length = l.length := List.length_set
      refine ⟨?_, .inr ⟨g, c, ⟨cur.toList.set (i * sz + o) u⟩, by rw [hset], hg, H, by rw [hset]; exact h1, h2, ?_, ?_⟩⟩
      · rw [flat_len hf]
      · show (cur.toList.set (i * sz + o) u).length = _
        rw [List.length_set]; exact hcl
      · show (cur.toList.set (i * sz + o) u).take _ = _
        rw [hset, List.take_set, h4, flat_setT hf ho hx hy]
end Go.Q
namespace Go.Q
open Go.RowKit
def kone (x : Int) : List Value := [i64 x]
theorem kone1 (x : Int) : (kone x).length = 1 := rfl
theorem kone_map (l : List Int) : l.flatMap kone = l.map i64 := by induction l with | nil => rfl | cons a l ih => rw [List.flatMap_cons, List.map_cons, ih]; rfl
theorem rd_lit {w : World} {b : Nat} {E : TypeId} {l : List Int} (h : Has w b (rowL (l.map i64) E)) (hl : l.length ≤ 100) : RdT w 1 kone (.slice (some ⟨b, 0, none⟩) l.length l.length) l := by
  refine ⟨_, _, _, rfl, by rw [kone_map, List.length_map, Nat.mul_one], Nat.le_refl _, by unfold maxLen; omega, fun _ => ⟨b, 0, rfl, fun j u hj => ?_⟩⟩
  rw [kone_map] at hj
  rw [Nat.zero_add, h.cell]
  exact hj
theorem contains_of {P : Program} {ρ : Go.Shelf.Ren} (L : Go.Proofs.SlLaysE.n31 P ρ) {A : Option Addr} {c : Nat} {l : List Int} (w : World) (x : Int) (h : RdT w 1 kone (.slice A l.length c) l) :
    Calls P (ρ.f 31) #[.slice A l.length c, i64 x] w fun e w' => e = .returned (.bool (decide (x ∈ l))) ∧ Keeps none_ w w' := by
  by_cases h0 : l = []
  · subst h0
    refine (Go.Proofs.AnyE.slices_Contains_empty L A c (i64 x) w).mono fun e w' ⟨he, hw⟩ => ?_
    subst hw
    exact ⟨by rw [he]; simp, Keeps.refl _⟩
  · obtain ⟨A', n', c', e, hl, hc, hm, hx⟩ := h
    injection e with e1 e2 e3
    subst e1; subst e2; subst e3
    obtain ⟨b, off, rfl, hx2⟩ := hx (by cases l with | nil => exact absurd rfl h0 | cons => exact Nat.succ_pos _)
    refine (Go.Proofs.AnyE.slices_Contains L (Value.int .i64) _ (Go.Proofs.EqlAt.int P _ .i64) b off l.length c l x w (Nat.le_refl _) (by unfold maxLen at hm; omega) (fun j hj => hx2 j _ (by rw [kone_map, getElem!_pos l j hj, List.getElem?_map, List.getElem?_eq_getElem hj]; rfl))).mono fun e w' ⟨he, hw⟩ => ?_
    subst hw
    refine ⟨?_, Keeps.refl _⟩
    rw [he, List.take_length]
    rw [show (l.any fun y => x == y) = decide (x ∈ l) from by rw [Bool.eq_iff_iff]; simp]
/-- The errors of a right operation of a kind. -/
def mayL (k : Int) : List Int := if k = 1 then [41, 45] else if k = 2 then [40, 43, 45] else if k = 3 then [40, 42, 45] else if k = 4 then [40, 42, 43, 45] else if k = 5 then [40] else []
def AdjP (l : List RowM) (j : Nat) : Prop := ∀ x, l[j]? = some x → 0 ≤ x.amount ∧ ∀ y, 0 < j → l[j - 1]? = some y → y.name < x.name
def AscP (l : List RowM) : Prop := ∀ j, j < l.length → AdjP l j
def FitsP (o : Opm) (r : ReplyM) : Prop :=
  if wrongE o ≠ 0 then r.why = wrongE o ∧ r.amount = 0 ∧ r.rows.length = 0
  else if r.why ≠ 0 then r.why ∈ mayL o.kind ∧ r.amount = 0 ∧ r.rows.length = 0
  else if o.kind = 5 then 0 ≤ r.amount ∧ r.rows.length = 0
  else if o.kind ≠ 6 then r.amount = 0 ∧ r.rows.length = 0
  else r.amount = 0 ∧ AscP r.rows
theorem Led.asc {S : List RowM} (h : Led S) : AscP S := by
  intro j hj x hx
  refine ⟨(h.ok x (List.mem_of_getElem? hx)).lo, fun y h0 hy => ?_⟩
  exact List.pairwise_iff_getElem.1 h.sorted (j - 1) j (by omega) hj (by omega) |> fun q => by
    have e1 : S[j - 1]'(by omega) = y := by rw [List.getElem?_eq_getElem (by omega)] at hy; exact Option.some.inj hy
    have e2 : S[j] = x := by rw [List.getElem?_eq_getElem hj] at hx; exact Option.some.inj hx
    rw [e1, e2] at q
    exact q
theorem getW_ok {S : List RowM} (h : Led S) {n : List UInt8} {a : RowM} (hg : getW S n = some a) : 0 ≤ a.amount := (h.ok a (getW_some hg).1).lo
theorem actE_may (S : List RowM) (o : Opm) (hk : 1 ≤ o.kind ∧ o.kind ≤ 4) : actE S o = 0 ∨ actE S o ∈ mayL o.kind := by
  have h : o.kind = 1 ∨ o.kind = 2 ∨ o.kind = 3 ∨ o.kind = 4 := by omega
  unfold actE mayL
  rcases h with h | h | h | h <;> rw [h] <;> simp only [] <;> repeat' split
  all_goals simp_all
theorem fits_do {S : List RowM} {K : List KeptM} {o : Opm} (h : Ledg S K) (hm : ∀ k ∈ K, k.why = 0 ∨ k.why ∈ mayL k.op.kind) : FitsP o (doR S K o) := by
  unfold FitsP
  by_cases hw : wrongE o = 0
  · rw [if_neg (fun q => q hw)]
    by_cases h7 : o.kind = 7
    · rw [(do_move hw h7).1]; simp [h7]
    by_cases h6 : o.kind = 6
    · rw [(do_audit hw h6).1]; simpa [h6] using h.led.asc
    by_cases h5 : o.kind = 5
    · cases hg : getW S o.frm with
      | none => rw [(do_bal_none hw h5 hg).1]; simp [h5, mayL]
      | some a => rw [(do_bal_some hw h5 hg).1]; simpa [h5] using getW_ok h.led hg
    obtain ⟨q1, -⟩ := wrong_act hw h7 h6 h5
    cases hf : findK K o.frm o.key with
    | none =>
      rw [(do_fresh hw h7 h6 h5 hf).1]
      have e := actE_may S (plainE o) q1
      rw [show (plainE o).kind = o.kind from rfl] at e
      rcases e with e | e
      · simp [e, h5, h6]
      · by_cases e0 : actE S (plainE o) = 0
        · simp [e0, h5, h6]
        · simpa [e0, h5, h6] using e
    | some k =>
      cases he : opEq k.op (plainE o) with
      | false =>
        rw [(do_other hw h7 h6 h5 hf he).1]
        have h : o.kind = 1 ∨ o.kind = 2 ∨ o.kind = 3 ∨ o.kind = 4 := by omega
        rcases h with h | h | h | h <;> simp [h, mayL]
      | true =>
        rw [(do_again hw h7 h6 h5 hf he).1]
        have h2 := (opEq_iff _ _).1 he
        have h3 := hm k (findK_some hf).1
        rw [h2, show (plainE o).kind = o.kind from rfl] at h3
        by_cases e0 : k.why = 0
        · simp [e0, h5, h6]
        · rcases h3 with h3 | h3
          · exact absurd h3 e0
          · simpa [e0, h5, h6] using h3
  · rw [if_pos hw, (do_wrong hw).1]
    simp
theorem fits_wrong {o : Opm} {r : ReplyM} (h : wrongE o ≠ 0) : FitsP o r ↔ r.why = wrongE o ∧ r.amount = 0 ∧ r.rows.length = 0 := by unfold FitsP; rw [if_pos h]
theorem fits_err {o : Opm} {r : ReplyM} (h : wrongE o = 0) (h1 : r.why ≠ 0) : FitsP o r ↔ r.why ∈ mayL o.kind ∧ r.amount = 0 ∧ r.rows.length = 0 := by unfold FitsP; rw [if_neg (fun q => q h), if_pos h1]
theorem fits_bal {o : Opm} {r : ReplyM} (h : wrongE o = 0) (h1 : r.why = 0) (h5 : o.kind = 5) : FitsP o r ↔ 0 ≤ r.amount ∧ r.rows.length = 0 := by unfold FitsP; rw [if_neg (fun q => q h), if_neg (fun q => q h1), if_pos h5]
theorem fits_bare {o : Opm} {r : ReplyM} (h : wrongE o = 0) (h1 : r.why = 0) (h5 : o.kind ≠ 5) (h6 : o.kind ≠ 6) : FitsP o r ↔ r.amount = 0 ∧ r.rows.length = 0 := by unfold FitsP; rw [if_neg (fun q => q h), if_neg (fun q => q h1), if_neg h5, if_pos h6]
theorem fits_rows {o : Opm} {r : ReplyM} (h : wrongE o = 0) (h1 : r.why = 0) (h6 : o.kind = 6) : FitsP o r ↔ r.amount = 0 ∧ AscP r.rows := by unfold FitsP; rw [if_neg (fun q => q h), if_neg (fun q => q h1), if_neg (by omega), if_neg (fun q => q h6)]
theorem may_len (q : Int) : (mayL q).length ≤ 4 ∧ (0 :: mayL q).length ≤ 5 := by
  unfold mayL
  (repeat' split) <;> decide
theorem AscP.zero {l : List RowM} (h : l.length = 0) : AscP l := fun j hj => absurd hj (by omega)
theorem fits_ref {o : Opm} {r : ReplyM} (hw : wrongE o = 0) (hm : r.why = 0 ∨ r.why ∈ mayL o.kind) (hb : ¬ (o.kind = 5 ∧ r.why = 0)) : FitsP o r ↔ (o.kind = 6 ∨ r.rows.length = 0) ∧ r.amount = 0 ∧ AscP r.rows := by
  by_cases h0 : r.why = 0
  · by_cases h6 : o.kind = 6
    · rw [fits_rows hw h0 h6]; exact ⟨fun h => ⟨.inl h6, h.1, h.2⟩, fun h => h.2⟩
    · rw [fits_bare hw h0 (fun q => hb ⟨q, h0⟩) h6]
      exact ⟨fun h => ⟨.inr h.2, h.1, AscP.zero h.2⟩, fun h => ⟨h.2.1, h.1.resolve_left h6⟩⟩
  · have hm := hm.resolve_left h0
    have h6 : o.kind ≠ 6 := fun q => by rw [q] at hm; simp [mayL] at hm
    rw [fits_err hw h0]
    exact ⟨fun h => ⟨.inr h.2.2, h.2.1, AscP.zero h.2.2⟩, fun h => ⟨hm, h.2.1, h.1.resolve_left h6⟩⟩
theorem fits_not {o : Opm} {r : ReplyM} (hw : wrongE o = 0) (hm : ¬ (r.why = 0 ∨ r.why ∈ mayL o.kind)) : ¬ FitsP o r := fun h => hm (.inr ((fits_err hw (fun q => hm (.inl q))).1 h).1)
theorem eqt_f2 {a b : Bool} {p : Prop} (ha : a = true ↔ p) (hb : b = true ↔ p) (h : b = false) : a = false := by
  cases a
  · rfl
  · rw [hb.2 (ha.1 rfl)] at h; cases h
theorem in_step {l : List Int} {i : Nat} {x z : Int} {a b : Bool} (hz : l[i]? = some z) (h : a = true ↔ x ∈ l.take i) (hb : b = true ↔ a = true ∨ z = x) : b = true ↔ x ∈ l.take (i + 1) := by
  rw [hb, h, List.take_add_one, hz, List.mem_append]
  simp [eq_comm]
theorem in_end {l : List Int} {i : Nat} {x : Int} {a : Bool} (h : a = true ↔ x ∈ l.take i) (hl : l.length ≤ i) : a = true ↔ x ∈ l := by rw [h, List.take_of_length_le hl]
theorem adj_step {l : List RowM} {i : Nat} {x y : RowM} (hx : l[i]? = some x) (hy : l[i - 1]? = some y) (hi : ∀ j, j < i → AdjP l j) (h1 : 0 ≤ x.amount) (h2 : 0 < i → y.name < x.name) : ∀ j, j < i + 1 → AdjP l j := by
  intro j hj
  by_cases h : j < i
  · exact hi j h
  · obtain rfl : j = i := by omega
    intro x' hx'
    rw [hx] at hx'
    obtain rfl := Option.some.inj hx'
    refine ⟨h1, fun y' h0 hy' => ?_⟩
    rw [hy] at hy'
    obtain rfl := Option.some.inj hy'
    exact h2 h0
theorem asc_at {l : List RowM} {i : Nat} {x y : RowM} (h : AscP l) (hx : l[i]? = some x) (hy : l[i - 1]? = some y) : 0 ≤ x.amount ∧ (0 < i → y.name < x.name) :=
  have := h i (List.getElem?_eq_some_iff.1 hx).1 x hx
  ⟨this.1, fun h0 => this.2 y h0 hy⟩
theorem lt_of_nle {a b : List UInt8} (h : (decide (a < b) || a == b) = false) : b < a := by
  simp only [Bool.or_eq_false_iff, decide_eq_false_iff_not, beq_eq_false_iff_ne] at h
  rcases ltN_or a b with h1 | h1 | h1
  · exact absurd h1 h.1
  · exact absurd h1 h.2
  · exact h1
theorem nlt_of_le {a b : List UInt8} (h : (decide (a < b) || a == b) = true) : ¬ b < a := by
  intro q
  simp only [Bool.or_eq_true, decide_eq_true_eq, beq_iff_eq] at h
  rcases h with h | h
  · exact ltN_irrefl _ (ltN_trans h q)
  · subst h; exact ltN_irrefl _ q
theorem Runs.strgeq {P : Program} {L : Loc} {o : Oper} {w : World} {t : TypeId} {a b : List UInt8} (h : bin? L o = some (.geq, t, .string (str a), .string (str b))) : Runs P L o w (.bool (!(decide (a < b)))) w := by
  refine Runs.bin h (fun _ _ => by simp [eqGuard, Sem.run_pure]) ?_
  simp only [binOp, Op.stringOp, str_toList, Go.Proofs.bytesLess_eq, Sem.run_pure]
theorem Runs.strleq {P : Program} {L : Loc} {o : Oper} {w : World} {t : TypeId} {a b : List UInt8} (h : bin? L o = some (.leq, t, .string (str a), .string (str b))) : Runs P L o w (.bool (decide (a < b) || a == b)) w := by
  refine Runs.bin h (fun _ _ => by simp [eqGuard, Sem.run_pure]) ?_
  simp only [binOp, Op.stringOp, str_toList, Go.Proofs.bytesLess_eq, Sem.run_pure]
/-- What is kept is kept with an error of its kind. -/
def MayK (K : List KeptM) : Prop := ∀ k ∈ K, k.why = 0 ∨ k.why ∈ mayL k.op.kind
theorem MayK.nil : MayK [] := fun k h => by cases h
theorem MayK.do_ {S : List RowM} {K : List KeptM} {o : Opm} (h : MayK K) : MayK (doK S K o) := by
  unfold doK
  split
  · next hf =>
    intro k hk
    rcases List.mem_append.1 hk with hk | hk
    · exact h k hk
    · rw [List.mem_singleton.1 hk]
      obtain ⟨q1, -⟩ := wrong_act hf.1 hf.2.1 hf.2.2.1 hf.2.2.2.1
      exact actE_may S (plainE o) q1
  · exact h
/-- What is refused changes no account. -/
theorem act_refused {S : List RowM} {o : Opm} (h : actE S o ≠ 0) : actS S o = S := by
  unfold actE at h
  unfold actS
  repeat' split
  all_goals first | rfl | (exfalso; apply h; simp_all)
theorem do_refused {S : List RowM} {K : List KeptM} {o : Opm} (h : (doR S K o).why ≠ 0) : doS S K o = S := by
  unfold doS
  split
  · next hf =>
    rw [(do_fresh hf.1 hf.2.1 hf.2.2.1 hf.2.2.2.1 hf.2.2.2.2).1] at h
    exact act_refused h
  · rfl
end Go.Q
namespace Go.Proofs.YtnfeemhpoaflfaaGreatDoor
open Go.Q Go.RowKit

theorem may_calls (w : World) (q : Int)  : Calls Tryz.prog 45 ⟨[(i64 q)]⟩ w (fun e w' => ∃ A c, e = .returned (.slice A (mayL q).length c) ∧ Keeps none_ w w' ∧ RdT w' 1 kone (.slice A (mayL q).length c) (mayL q)) := by
 have K0 : Keeps none_ w w := Keeps.refl w
 refine q_calls Tryz.func45 (by kernel_rfl) (by kernel_rfl) ?_
 refine qs ?_
 refine qg ?_
 refine og 1 [(0, (i64 q)), (2, (Value.slice none 0 0))] 1 ?_
 refine od ?_
 refine qs ?_
 refine qs ?_
 refine qg ?_
 refine og 1 [(2, (Value.slice none 0 0)), (3, (i64 q))] 1 ?_
 refine od ?_
 refine q_block (id := 0) (by kernel_rfl) ?_
 refine qs ?_
 refine qg ?_
 refine og 2 [(2, (Value.slice none 0 0)), (3, (i64 q)), (4, (Value.bool (q == 1)))] 2 ?_
 refine od ?_
 refine q_cond (o := .tmp 4) (b := (q == 1)) (by kernel_rfl) rfl (fun h1 => ?_) (fun h1 => ?_)
 ·rw [h1]
  have p2 : q = 1 := of_beq_t h1
  refine qs ?_
  refine qg ?_
  refine Ops.new (o := rowL [(i64 41), (i64 45)] 27) (V := fun b => (Value.slice (some ⟨b, 0, none⟩) 2 2)) (by kernel_rfl) (d := (some 6)) (by kernel_rfl) (fun b => rfl) (fun b3 w4 hb5 H6 K7 hs8 => ?_)
  have nb3 : w.heap.size ≤ b3 := by have := K0.size; omega
  replace K0 := K0.t0 K7
  clear K7 hs8
  refine og 1 [(2, (Value.slice (some ⟨b3, 0, none⟩) 2 2)), (3, (i64 q))] 2 ?_
  refine od ?_
  refine q_ret (by kernel_rfl) ?_
  refine ⟨(Value.slice (some ⟨b3, 0, none⟩) 2 2), retv_tmp rfl rfl, ?_⟩
  have hm : mayL q = [41, 45] := by unfold mayL; (repeat' split) <;> first | rfl | (exfalso; omega)
  exact ⟨some ⟨b3, 0, none⟩, 2, by rw [hm]; rfl, K0, by rw [hm]; exact rd_lit (l := [41, 45]) H6 (by decide)⟩
 ·rw [h1]
  have p9 : ¬ (q = 1) := of_beq_f h1
  refine qs ?_
  refine qg ?_
  refine og 2 [(2, (Value.slice none 0 0)), (3, (i64 q)), (7, (Value.bool (q == 2)))] 2 ?_
  refine od ?_
  refine q_cond (o := .tmp 7) (b := (q == 2)) (by kernel_rfl) rfl (fun h10 => ?_) (fun h10 => ?_)
  ·rw [h10]
   have p11 : q = 2 := of_beq_t h10
   refine qs ?_
   refine qg ?_
   refine Ops.new (o := rowL [(i64 40), (i64 43), (i64 45)] 27) (V := fun b => (Value.slice (some ⟨b, 0, none⟩) 3 3)) (by kernel_rfl) (d := (some 9)) (by kernel_rfl) (fun b => rfl) (fun b12 w13 hb14 H15 K16 hs17 => ?_)
   have nb12 : w.heap.size ≤ b12 := by have := K0.size; omega
   replace K0 := K0.t0 K16
   clear K16 hs17
   refine og 1 [(2, (Value.slice (some ⟨b12, 0, none⟩) 3 3)), (3, (i64 q))] 2 ?_
   refine od ?_
   refine q_ret (by kernel_rfl) ?_
   refine ⟨(Value.slice (some ⟨b12, 0, none⟩) 3 3), retv_tmp rfl rfl, ?_⟩
   have hm : mayL q = [40, 43, 45] := by unfold mayL; (repeat' split) <;> first | rfl | (exfalso; omega)
   exact ⟨some ⟨b12, 0, none⟩, 3, by rw [hm]; rfl, K0, by rw [hm]; exact rd_lit (l := [40, 43, 45]) H15 (by decide)⟩
  ·rw [h10]
   have p18 : ¬ (q = 2) := of_beq_f h10
   refine qs ?_
   refine qg ?_
   refine og 2 [(2, (Value.slice none 0 0)), (3, (i64 q)), (10, (Value.bool (q == 3)))] 2 ?_
   refine od ?_
   refine q_cond (o := .tmp 10) (b := (q == 3)) (by kernel_rfl) rfl (fun h19 => ?_) (fun h19 => ?_)
   ·rw [h19]
    have p20 : q = 3 := of_beq_t h19
    refine qs ?_
    refine qg ?_
    refine Ops.new (o := rowL [(i64 40), (i64 42), (i64 45)] 27) (V := fun b => (Value.slice (some ⟨b, 0, none⟩) 3 3)) (by kernel_rfl) (d := (some 12)) (by kernel_rfl) (fun b => rfl) (fun b21 w22 hb23 H24 K25 hs26 => ?_)
    have nb21 : w.heap.size ≤ b21 := by have := K0.size; omega
    replace K0 := K0.t0 K25
    clear K25 hs26
    refine og 1 [(2, (Value.slice (some ⟨b21, 0, none⟩) 3 3)), (3, (i64 q))] 2 ?_
    refine od ?_
    refine q_ret (by kernel_rfl) ?_
    refine ⟨(Value.slice (some ⟨b21, 0, none⟩) 3 3), retv_tmp rfl rfl, ?_⟩
    have hm : mayL q = [40, 42, 45] := by unfold mayL; (repeat' split) <;> first | rfl | (exfalso; omega)
    exact ⟨some ⟨b21, 0, none⟩, 3, by rw [hm]; rfl, K0, by rw [hm]; exact rd_lit (l := [40, 42, 45]) H24 (by decide)⟩
   ·rw [h19]
    have p27 : ¬ (q = 3) := of_beq_f h19
    refine qs ?_
    refine qg ?_
    refine og 2 [(2, (Value.slice none 0 0)), (3, (i64 q)), (13, (Value.bool (q == 4)))] 2 ?_
    refine od ?_
    refine q_cond (o := .tmp 13) (b := (q == 4)) (by kernel_rfl) rfl (fun h28 => ?_) (fun h28 => ?_)
    ·rw [h28]
     have p29 : q = 4 := of_beq_t h28
     refine qs ?_
     refine qg ?_
     refine Ops.new (o := rowL [(i64 40), (i64 42), (i64 43), (i64 45)] 27) (V := fun b => (Value.slice (some ⟨b, 0, none⟩) 4 4)) (by kernel_rfl) (d := (some 15)) (by kernel_rfl) (fun b => rfl) (fun b30 w31 hb32 H33 K34 hs35 => ?_)
     have nb30 : w.heap.size ≤ b30 := by have := K0.size; omega
     replace K0 := K0.t0 K34
     clear K34 hs35
     refine og 1 [(2, (Value.slice (some ⟨b30, 0, none⟩) 4 4)), (3, (i64 q))] 2 ?_
     refine od ?_
     refine q_ret (by kernel_rfl) ?_
     refine ⟨(Value.slice (some ⟨b30, 0, none⟩) 4 4), retv_tmp rfl rfl, ?_⟩
     have hm : mayL q = [40, 42, 43, 45] := by unfold mayL; (repeat' split) <;> first | rfl | (exfalso; omega)
     exact ⟨some ⟨b30, 0, none⟩, 4, by rw [hm]; rfl, K0, by rw [hm]; exact rd_lit (l := [40, 42, 43, 45]) H33 (by decide)⟩
    ·rw [h28]
     have p36 : ¬ (q = 4) := of_beq_f h28
     refine qs ?_
     refine qg ?_
     refine og 2 [(2, (Value.slice none 0 0)), (16, (Value.bool (q == 5)))] 2 ?_
     refine od ?_
     refine q_cond (o := .tmp 16) (b := (q == 5)) (by kernel_rfl) rfl (fun h37 => ?_) (fun h37 => ?_)
     ·rw [h37]
      have p38 : q = 5 := of_beq_t h37
      refine qs ?_
      refine qg ?_
      refine Ops.new (o := rowL [(i64 40)] 27) (V := fun b => (Value.slice (some ⟨b, 0, none⟩) 1 1)) (by kernel_rfl) (d := (some 18)) (by kernel_rfl) (fun b => rfl) (fun b39 w40 hb41 H42 K43 hs44 => ?_)
      have nb39 : w.heap.size ≤ b39 := by have := K0.size; omega
      replace K0 := K0.t0 K43
      clear K43 hs44
      refine og 1 [(2, (Value.slice (some ⟨b39, 0, none⟩) 1 1))] 2 ?_
      refine od ?_
      refine q_ret (by kernel_rfl) ?_
      refine ⟨(Value.slice (some ⟨b39, 0, none⟩) 1 1), retv_tmp rfl rfl, ?_⟩
      have hm : mayL q = [40] := by unfold mayL; (repeat' split) <;> first | rfl | (exfalso; omega)
      exact ⟨some ⟨b39, 0, none⟩, 1, by rw [hm]; rfl, K0, by rw [hm]; exact rd_lit (l := [40]) H42 (by decide)⟩
     ·rw [h37]
      have p45 : ¬ (q = 5) := of_beq_f h37
      refine q_skip (by kernel_rfl) ?_
      refine qs ?_
      refine qg ?_
      refine og 1 [(2, (Value.slice none 0 0))] 1 ?_
      refine od ?_
      refine q_ret (by kernel_rfl) ?_
      refine ⟨(Value.slice none 0 0), retv_tmp rfl rfl, ?_⟩
      have hm : mayL q = [] := by unfold mayL; (repeat' split) <;> first | rfl | (exfalso; omega)
      exact ⟨none, 0, by rw [hm]; rfl, K0, by rw [hm]; exact Rd.nil _ _⟩

theorem errors_calls (w : World) (q : Int)  : Calls Tryz.prog 46 ⟨[(i64 q)]⟩ w (fun e w' => ∃ A c, e = .returned (.slice A (0 :: mayL q).length c) ∧ Keeps none_ w w' ∧ RdT w' 1 kone (.slice A (0 :: mayL q).length c) (0 :: mayL q)) := by
 have K0 : Keeps none_ w w := Keeps.refl w
 refine q_calls Tryz.func46 (by kernel_rfl) (by kernel_rfl) ?_
 refine qs ?_
 refine qg ?_
 refine og 1 [(0, (i64 q)), (2, (Value.slice none 0 0))] 1 ?_
 refine od ?_
 refine qs ?_
 refine qs ?_
 refine qg ?_
 refine og 1 [(2, (Value.slice none 0 0)), (3, (i64 q))] 1 ?_
 refine od ?_
 refine q_block (id := 0) (by kernel_rfl) ?_
 refine qs ?_
 refine qg ?_
 refine og 2 [(2, (Value.slice none 0 0)), (3, (i64 q)), (4, (Value.bool (q == 1)))] 2 ?_
 refine od ?_
 refine q_cond (o := .tmp 4) (b := (q == 1)) (by kernel_rfl) rfl (fun h1 => ?_) (fun h1 => ?_)
 ·rw [h1]
  have p2 : q = 1 := of_beq_t h1
  refine qs ?_
  refine qg ?_
  refine Ops.new (o := rowL [(i64 0), (i64 41), (i64 45)] 27) (V := fun b => (Value.slice (some ⟨b, 0, none⟩) 3 3)) (by kernel_rfl) (d := (some 6)) (by kernel_rfl) (fun b => rfl) (fun b3 w4 hb5 H6 K7 hs8 => ?_)
  have nb3 : w.heap.size ≤ b3 := by have := K0.size; omega
  replace K0 := K0.t0 K7
  clear K7 hs8
  refine og 1 [(2, (Value.slice (some ⟨b3, 0, none⟩) 3 3)), (3, (i64 q))] 2 ?_
  refine od ?_
  refine q_ret (by kernel_rfl) ?_
  refine ⟨(Value.slice (some ⟨b3, 0, none⟩) 3 3), retv_tmp rfl rfl, ?_⟩
  have hm : mayL q = [41, 45] := by unfold mayL; (repeat' split) <;> first | rfl | (exfalso; omega)
  exact ⟨some ⟨b3, 0, none⟩, 3, by rw [hm]; rfl, K0, by rw [hm]; exact rd_lit (l := [0, 41, 45]) H6 (by decide)⟩
 ·rw [h1]
  have p9 : ¬ (q = 1) := of_beq_f h1
  refine qs ?_
  refine qg ?_
  refine og 2 [(2, (Value.slice none 0 0)), (3, (i64 q)), (7, (Value.bool (q == 2)))] 2 ?_
  refine od ?_
  refine q_cond (o := .tmp 7) (b := (q == 2)) (by kernel_rfl) rfl (fun h10 => ?_) (fun h10 => ?_)
  ·rw [h10]
   have p11 : q = 2 := of_beq_t h10
   refine qs ?_
   refine qg ?_
   refine Ops.new (o := rowL [(i64 0), (i64 40), (i64 43), (i64 45)] 27) (V := fun b => (Value.slice (some ⟨b, 0, none⟩) 4 4)) (by kernel_rfl) (d := (some 9)) (by kernel_rfl) (fun b => rfl) (fun b12 w13 hb14 H15 K16 hs17 => ?_)
   have nb12 : w.heap.size ≤ b12 := by have := K0.size; omega
   replace K0 := K0.t0 K16
   clear K16 hs17
   refine og 1 [(2, (Value.slice (some ⟨b12, 0, none⟩) 4 4)), (3, (i64 q))] 2 ?_
   refine od ?_
   refine q_ret (by kernel_rfl) ?_
   refine ⟨(Value.slice (some ⟨b12, 0, none⟩) 4 4), retv_tmp rfl rfl, ?_⟩
   have hm : mayL q = [40, 43, 45] := by unfold mayL; (repeat' split) <;> first | rfl | (exfalso; omega)
   exact ⟨some ⟨b12, 0, none⟩, 4, by rw [hm]; rfl, K0, by rw [hm]; exact rd_lit (l := [0, 40, 43, 45]) H15 (by decide)⟩
  ·rw [h10]
   have p18 : ¬ (q = 2) := of_beq_f h10
   refine qs ?_
   refine qg ?_
   refine og 2 [(2, (Value.slice none 0 0)), (3, (i64 q)), (10, (Value.bool (q == 3)))] 2 ?_
   refine od ?_
   refine q_cond (o := .tmp 10) (b := (q == 3)) (by kernel_rfl) rfl (fun h19 => ?_) (fun h19 => ?_)
   ·rw [h19]
    have p20 : q = 3 := of_beq_t h19
    refine qs ?_
    refine qg ?_
    refine Ops.new (o := rowL [(i64 0), (i64 40), (i64 42), (i64 45)] 27) (V := fun b => (Value.slice (some ⟨b, 0, none⟩) 4 4)) (by kernel_rfl) (d := (some 12)) (by kernel_rfl) (fun b => rfl) (fun b21 w22 hb23 H24 K25 hs26 => ?_)
    have nb21 : w.heap.size ≤ b21 := by have := K0.size; omega
    replace K0 := K0.t0 K25
    clear K25 hs26
    refine og 1 [(2, (Value.slice (some ⟨b21, 0, none⟩) 4 4)), (3, (i64 q))] 2 ?_
    refine od ?_
    refine q_ret (by kernel_rfl) ?_
    refine ⟨(Value.slice (some ⟨b21, 0, none⟩) 4 4), retv_tmp rfl rfl, ?_⟩
    have hm : mayL q = [40, 42, 45] := by unfold mayL; (repeat' split) <;> first | rfl | (exfalso; omega)
    exact ⟨some ⟨b21, 0, none⟩, 4, by rw [hm]; rfl, K0, by rw [hm]; exact rd_lit (l := [0, 40, 42, 45]) H24 (by decide)⟩
   ·rw [h19]
    have p27 : ¬ (q = 3) := of_beq_f h19
    refine qs ?_
    refine qg ?_
    refine og 2 [(2, (Value.slice none 0 0)), (3, (i64 q)), (13, (Value.bool (q == 4)))] 2 ?_
    refine od ?_
    refine q_cond (o := .tmp 13) (b := (q == 4)) (by kernel_rfl) rfl (fun h28 => ?_) (fun h28 => ?_)
    ·rw [h28]
     have p29 : q = 4 := of_beq_t h28
     refine qs ?_
     refine qg ?_
     refine Ops.new (o := rowL [(i64 0), (i64 40), (i64 42), (i64 43), (i64 45)] 27) (V := fun b => (Value.slice (some ⟨b, 0, none⟩) 5 5)) (by kernel_rfl) (d := (some 15)) (by kernel_rfl) (fun b => rfl) (fun b30 w31 hb32 H33 K34 hs35 => ?_)
     have nb30 : w.heap.size ≤ b30 := by have := K0.size; omega
     replace K0 := K0.t0 K34
     clear K34 hs35
     refine og 1 [(2, (Value.slice (some ⟨b30, 0, none⟩) 5 5)), (3, (i64 q))] 2 ?_
     refine od ?_
     refine q_ret (by kernel_rfl) ?_
     refine ⟨(Value.slice (some ⟨b30, 0, none⟩) 5 5), retv_tmp rfl rfl, ?_⟩
     have hm : mayL q = [40, 42, 43, 45] := by unfold mayL; (repeat' split) <;> first | rfl | (exfalso; omega)
     exact ⟨some ⟨b30, 0, none⟩, 5, by rw [hm]; rfl, K0, by rw [hm]; exact rd_lit (l := [0, 40, 42, 43, 45]) H33 (by decide)⟩
    ·rw [h28]
     have p36 : ¬ (q = 4) := of_beq_f h28
     refine qs ?_
     refine qg ?_
     refine og 2 [(2, (Value.slice none 0 0)), (16, (Value.bool (q == 5)))] 2 ?_
     refine od ?_
     refine q_cond (o := .tmp 16) (b := (q == 5)) (by kernel_rfl) rfl (fun h37 => ?_) (fun h37 => ?_)
     ·rw [h37]
      have p38 : q = 5 := of_beq_t h37
      refine qs ?_
      refine qg ?_
      refine Ops.new (o := rowL [(i64 0), (i64 40)] 27) (V := fun b => (Value.slice (some ⟨b, 0, none⟩) 2 2)) (by kernel_rfl) (d := (some 18)) (by kernel_rfl) (fun b => rfl) (fun b39 w40 hb41 H42 K43 hs44 => ?_)
      have nb39 : w.heap.size ≤ b39 := by have := K0.size; omega
      replace K0 := K0.t0 K43
      clear K43 hs44
      refine og 1 [(2, (Value.slice (some ⟨b39, 0, none⟩) 2 2))] 2 ?_
      refine od ?_
      refine q_ret (by kernel_rfl) ?_
      refine ⟨(Value.slice (some ⟨b39, 0, none⟩) 2 2), retv_tmp rfl rfl, ?_⟩
      have hm : mayL q = [40] := by unfold mayL; (repeat' split) <;> first | rfl | (exfalso; omega)
      exact ⟨some ⟨b39, 0, none⟩, 2, by rw [hm]; rfl, K0, by rw [hm]; exact rd_lit (l := [0, 40]) H42 (by decide)⟩
     ·rw [h37]
      have p45 : ¬ (q = 5) := of_beq_f h37
      refine q_skip (by kernel_rfl) ?_
      refine qs ?_
      refine qg ?_
      refine Ops.new (o := rowL [(i64 0)] 27) (V := fun b => (Value.slice (some ⟨b, 0, none⟩) 1 1)) (by kernel_rfl) (d := (some 19)) (by kernel_rfl) (fun b => rfl) (fun b46 w47 hb48 H49 K50 hs51 => ?_)
      have nb46 : w.heap.size ≤ b46 := by have := K0.size; omega
      replace K0 := K0.t0 K50
      clear K50 hs51
      refine og 1 [(2, (Value.slice (some ⟨b46, 0, none⟩) 1 1))] 2 ?_
      refine od ?_
      refine q_ret (by kernel_rfl) ?_
      refine ⟨(Value.slice (some ⟨b46, 0, none⟩) 1 1), retv_tmp rfl rfl, ?_⟩
      have hm : mayL q = [] := by unfold mayL; (repeat' split) <;> first | rfl | (exfalso; omega)
      exact ⟨some ⟨b46, 0, none⟩, 1, by rw [hm]; rfl, K0, by rw [hm]; exact rd_lit (l := [0]) H49 (by decide)⟩

set_option maxHeartbeats 4000000 in
theorem Fits_calls (w : World) (o : Opm) (r : ReplyM) (A : Option Addr) (c : Nat) (hR : RdR w (.slice A r.rows.length c) r.rows) : Calls Tryz.prog 20 ⟨[(agg [(i64 o.kind), (Value.string (str o.frm)), (Value.string (str o.to)), (i64 o.amount), (Value.string (str o.key)), (i64 o.slot), (i64 o.shard)]), (agg [(i64 r.why), (i64 r.amount), (Value.slice A r.rows.length c)])]⟩ w (fun e w' => ∃ t, e = .returned (.bool t) ∧ (t = true ↔ FitsP o r) ∧ Keeps none_ w w') := by
 have hcap := (RdT.len RowM.two (by decide) hR).2
 unfold maxLen at hcap
 have K0 : Keeps none_ w w := Keeps.refl w
 refine q_calls Tryz.func20 (by kernel_rfl) (by kernel_rfl) ?_
 refine qs ?_
 refine qg ?_
 refine Ops.new (o := rowL [(i64 o.kind), (Value.string (str o.frm)), (Value.string (str o.to)), (i64 o.amount), (Value.string (str o.key)), (i64 o.slot), (i64 o.shard)] 24) (V := fun b => (ptr b)) (by kernel_rfl) (d := (some 2)) (by kernel_rfl) (fun b => rfl) (fun b1 w2 hb3 H4 K5 hs6 => ?_)
 have nb1 : w.heap.size ≤ b1 := by have := K0.size; omega
 replace K0 := K0.t0 K5
 clear K5 hs6
 refine Ops.new (o := rowL [(i64 r.why), (i64 r.amount), (Value.slice A r.rows.length c)] 30) (V := fun b => (ptr b)) (by kernel_rfl) (d := (some 3)) (by kernel_rfl) (fun b => rfl) (fun b7 w8 hb9 H10 K11 hs12 => ?_)
 have lb7b1 : b1 < b7 := by have := H4.lt; omega
 have nb7 : w.heap.size ≤ b7 := by have := K0.size; omega
 replace K0 := K0.t0 K11
 replace H4 := H4.keep K11 (fun h => h)
 clear K11 hs12
 refine og 1 [(2, (ptr b1)), (3, (ptr b7)), (4, (Value.bool false))] 3 ?_
 refine od ?_
 refine qs ?_
 refine qg ?_
 refine og 1 [(2, (ptr b1)), (3, (ptr b7)), (4, (Value.bool false)), (9, (Value.pointer (some ⟨b7, 1, none⟩)))] 1 ?_
 refine Ops.go (v := (i64 r.amount)) (by kernel_rfl) (Runs.load (t := 2) (a := ⟨b7, 1, none⟩) (by kernel_rfl) (H10.loads (by kernel_rfl))) (d := (some 10)) (by kernel_rfl) rfl ?_
 refine og 2 [(2, (ptr b1)), (3, (ptr b7)), (4, (Value.bool false)), (12, (Value.bool (r.amount == 0)))] 4 ?_
 refine Ops.split (r.amount == 0) (fun h13 => ?_) (fun h13 => ?_)
 ·rw [h13]
  have p14 : r.amount = 0 := of_beq_t h13
  refine og 1 [(2, (ptr b1)), (3, (ptr b7)), (4, (Value.bool false)), (12, (Value.bool true)), (13, (Value.pointer (some ⟨b7, 2, none⟩)))] 5 ?_
  refine Ops.go (v := (Value.slice A r.rows.length c)) (by kernel_rfl) (Runs.load (t := 28) (a := ⟨b7, 2, none⟩) (by kernel_rfl) (H10.loads (by kernel_rfl))) (d := (some 14)) (by kernel_rfl) rfl ?_
  refine og 4 [(2, (ptr b1)), (3, (ptr b7)), (4, (Value.bool false)), (5, (Value.bool (((r.rows.length : Nat) : Int) == 0)))] 10 ?_
  refine od ?_
  refine qs ?_
  refine qs ?_
  refine qg ?_
  refine Ops.go (v := (agg [(i64 o.kind), (Value.string (str o.frm)), (Value.string (str o.to)), (i64 o.amount), (Value.string (str o.key)), (i64 o.slot), (i64 o.shard)])) (by kernel_rfl) (Runs.load (t := 24) (a := ⟨b1, 0, none⟩) (by kernel_rfl) (H4.loads (by kernel_rfl))) (d := (some 18)) (by kernel_rfl) rfl ?_
  refine Ops.call (by kernel_rfl) (d := (some 19)) (by kernel_rfl) (Wrong_calls _ o) ?_
  rintro _ w16 ⟨rfl, K15⟩
  refine ⟨_, _, rfl, rfl, ?_⟩
  replace K0 := K0.t0 K15
  replace H4 := H4.keep K15 (fun h => h)
  replace H10 := H10.keep K15 (fun h => h)
  clear K15
  refine og 1 [(2, (ptr b1)), (3, (ptr b7)), (4, (Value.bool false)), (5, (Value.bool (((r.rows.length : Nat) : Int) == 0))), (6, (i64 (wrongE o)))] 3 ?_
  refine od ?_
  refine qs ?_
  refine qg ?_
  refine og 2 [(2, (ptr b1)), (3, (ptr b7)), (4, (Value.bool false)), (5, (Value.bool (((r.rows.length : Nat) : Int) == 0))), (6, (i64 (wrongE o))), (21, (Value.bool ((wrongE o) != 0)))] 2 ?_
  refine od ?_
  refine q_cond (o := .tmp 21) (b := ((wrongE o) != 0)) (by kernel_rfl) rfl (fun h17 => ?_) (fun h17 => ?_)
  ·rw [h17]
   have p18 : ¬ (wrongE o = 0) := of_bne_t h17
   refine qs ?_
   refine qg ?_
   refine og 2 [(2, (ptr b1)), (3, (ptr b7)), (4, (Value.bool false)), (5, (Value.bool (((r.rows.length : Nat) : Int) == 0))), (6, (i64 (wrongE o))), (23, (Value.bool (((r.rows.length : Nat) : Int) == 0)))] 2 ?_
   refine Ops.split (((r.rows.length : Nat) : Int) == 0) (fun h19 => ?_) (fun h19 => ?_)
   ·rw [h19]
    have p20 : ((r.rows.length : Nat) : Int) = 0 := of_beq_t h19
    refine og 1 [(2, (ptr b1)), (3, (ptr b7)), (4, (Value.bool false)), (5, (Value.bool true)), (6, (i64 (wrongE o))), (23, (Value.bool true)), (24, (ptr b7))] 3 ?_
    refine Ops.go (v := (i64 r.why)) (by kernel_rfl) (Runs.load (t := 27) (a := ⟨b7, 0, none⟩) (by kernel_rfl) (H10.loads (by kernel_rfl))) (d := (some 25)) (by kernel_rfl) rfl ?_
    refine og 4 [(2, (ptr b1)), (3, (ptr b7)), (4, (Value.bool (r.why == (wrongE o)))), (5, (Value.bool true))] 8 ?_
    refine od ?_
    refine q_ret (by kernel_rfl) ?_
    refine ⟨(Value.bool (r.why == (wrongE o))), retv_tmp rfl rfl, ?_⟩
    exact ⟨_, rfl, (by first | (rw [fits_wrong (by omega)]; first | (simp only [decide_eq_true_eq, Bool.false_eq_true, false_iff, true_iff]; omega) | (simp_all; done) | (simp_all; omega)) | (rw [fits_err (by omega) (by omega)]; first | (simp only [decide_eq_true_eq, Bool.false_eq_true, false_iff, true_iff]; omega) | (simp_all; done) | (simp_all; omega)) | (rw [fits_bal (by omega) (by omega) (by omega)]; first | (simp only [decide_eq_true_eq, Bool.false_eq_true, false_iff, true_iff]; omega) | (simp_all; done) | (simp_all; omega)) | (rw [fits_bare (by omega) (by omega) (by omega) (by omega)]; first | (simp only [decide_eq_true_eq, Bool.false_eq_true, false_iff, true_iff]; omega) | (simp_all; done) | (simp_all; omega)) | (rw [fits_rows (by omega) (by omega) (by omega)]; simp; omega)), K0⟩
   ·rw [h19]
    have p21 : ¬ (((r.rows.length : Nat) : Int) = 0) := of_beq_f h19
    refine og 6 [(2, (ptr b1)), (3, (ptr b7)), (4, (Value.bool false)), (5, (Value.bool false))] 8 ?_
    refine od ?_
    refine q_ret (by kernel_rfl) ?_
    refine ⟨(Value.bool false), retv_tmp rfl rfl, ?_⟩
    exact ⟨_, rfl, (by first | (rw [fits_wrong (by omega)]; first | (simp only [decide_eq_true_eq, Bool.false_eq_true, false_iff, true_iff]; omega) | (simp_all; done) | (simp_all; omega)) | (rw [fits_err (by omega) (by omega)]; first | (simp only [decide_eq_true_eq, Bool.false_eq_true, false_iff, true_iff]; omega) | (simp_all; done) | (simp_all; omega)) | (rw [fits_bal (by omega) (by omega) (by omega)]; first | (simp only [decide_eq_true_eq, Bool.false_eq_true, false_iff, true_iff]; omega) | (simp_all; done) | (simp_all; omega)) | (rw [fits_bare (by omega) (by omega) (by omega) (by omega)]; first | (simp only [decide_eq_true_eq, Bool.false_eq_true, false_iff, true_iff]; omega) | (simp_all; done) | (simp_all; omega)) | (rw [fits_rows (by omega) (by omega) (by omega)]; simp; omega)), K0⟩
  ·rw [h17]
   have p22 : wrongE o = 0 := of_bne_f h17
   refine q_skip (by kernel_rfl) ?_
   refine qs ?_
   refine q_block (id := 0) (by kernel_rfl) ?_
   refine qs ?_
   refine qg ?_
   refine og 1 [(2, (ptr b1)), (3, (ptr b7)), (4, (Value.bool false)), (5, (Value.bool (((r.rows.length : Nat) : Int) == 0))), (30, (ptr b7))] 1 ?_
   refine Ops.go (v := (i64 r.why)) (by kernel_rfl) (Runs.load (t := 27) (a := ⟨b7, 0, none⟩) (by kernel_rfl) (H10.loads (by kernel_rfl))) (d := (some 31)) (by kernel_rfl) rfl ?_
   refine og 2 [(2, (ptr b1)), (3, (ptr b7)), (4, (Value.bool false)), (5, (Value.bool (((r.rows.length : Nat) : Int) == 0))), (29, (Value.bool (r.why != 0)))] 4 ?_
   refine od ?_
   refine q_cond (o := .tmp 29) (b := (r.why != 0)) (by kernel_rfl) rfl (fun h23 => ?_) (fun h23 => ?_)
   ·rw [h23]
    have p24 : ¬ (r.why = 0) := of_bne_t h23
    refine qs ?_
    refine q_draw (fun wz => Keeps none_ w16 wz) 10 (by kernel_rfl) (by kernel_rfl) (by kernel_rfl) (fun w25 K26 _ _ => ⟨K26, ?_⟩)
    replace K0 := K0.t0 K26
    replace H4 := H4.keep K26 (fun h => h)
    replace H10 := H10.keep K26 (fun h => h)
    refine Dr.strong (S' := (fun wz => Keeps none_ w25 wz)) (Keeps.refl w25) (fun wz hx => K26.trans hx (fun i _ h => h) (fun _ _ h => h)) ?_
    clear K26
    refine Dr.takes (fuel' := 9) (is' := [0]) [0] [(2, (ptr b1)), (3, (ptr b7)), (4, (Value.bool false)), (5, (Value.bool (((r.rows.length : Nat) : Int) == 0))), (33, (ptr b1))] (by kernel_rfl) rfl (by kernel_rfl) ?_
    refine Dr.take (i := 1) (v := (i64 o.kind)) (by kernel_rfl) (by kernel_rfl) (fun wz hS => Runs.load (t := 3) (a := ⟨b1, 0, none⟩) (by kernel_rfl) ((H4.keep hS (fun h => h)).loads (by kernel_rfl))) (d := (some 34)) (by kernel_rfl) rfl ?_
    refine Dr.takes (fuel' := 7) (is' := [3, 1, 0]) [3] [(2, (ptr b1)), (3, (ptr b7)), (4, (Value.bool false)), (5, (Value.bool (((r.rows.length : Nat) : Int) == 0))), (34, (i64 o.kind)), (36, (ptr b7))] (by kernel_rfl) rfl (by kernel_rfl) ?_
    refine Dr.take (i := 4) (v := (i64 r.why)) (by kernel_rfl) (by kernel_rfl) (fun wz hS => Runs.load (t := 27) (a := ⟨b7, 0, none⟩) (by kernel_rfl) ((H10.keep hS (fun h => h)).loads (by kernel_rfl))) (d := (some 37)) (by kernel_rfl) rfl ?_
    refine Dr.call (i := 2) (by kernel_rfl) (by kernel_rfl) (d := (some 35)) (by kernel_rfl) (fun _ => may_calls _ o.kind) ?_
    rintro _ w30 ⟨A27, c28, rfl, K29, hR31⟩
    have hml32 := may_len o.kind
    replace K0 := K0.t0 K29
    replace H4 := H4.keep K29 (fun h => h)
    replace H10 := H10.keep K29 (fun h => h)
    refine ⟨_, _, rfl, rfl, K29, ?_⟩
    refine Dr.strong (S' := (fun wz => Keeps none_ w30 wz)) (Keeps.refl w30) (fun wz hx => K29.trans hx (fun i _ h => h) (fun _ _ h => h)) ?_
    clear K29
    refine Dr.call (i := 5) (by kernel_rfl) (by kernel_rfl) (d := (some 38)) (by kernel_rfl) (fun _ => contains_of Go.Proofs.Tryz.contains44 _ r.why hR31) ?_
    rintro _ w34 ⟨rfl, K33⟩
    replace K0 := K0.t0 K33
    replace H4 := H4.keep K33 (fun h => h)
    replace H10 := H10.keep K33 (fun h => h)
    replace hR31 := (Rd.keep0 (by omega) hR31 K33)
    refine ⟨_, _, rfl, rfl, K33, ?_⟩
    refine Dr.strong (S' := (fun wz => Keeps none_ w34 wz)) (Keeps.refl w34) (fun wz hx => K33.trans hx (fun i _ h => h) (fun _ _ h => h)) ?_
    clear K33
    refine Dr.takes (fuel' := 3) (is' := [6, 5, 2, 4, 3, 1, 0]) [6] [(2, (ptr b1)), (3, (ptr b7)), (4, (Value.bool false)), (5, (Value.bool (((r.rows.length : Nat) : Int) == 0))), (39, (Value.bool (decide (r.why ∈ (mayL o.kind)))))] (by kernel_rfl) rfl (by kernel_rfl) ?_
    refine Dr.split (decide (r.why ∈ (mayL o.kind))) (fun h35 => ?_) (fun h35 => ?_)
    ·rw [h35]
     have p36 : (decide (r.why ∈ (mayL o.kind))) = true := h35
     have hmem := of_decide_eq_true h35
     refine Dr.takes (fuel' := 0) (is' := [9, 8, 7, 6, 5, 2, 4, 3, 1, 0]) [7, 8, 9] [(2, (ptr b1)), (3, (ptr b7)), (4, (Value.bool (((r.rows.length : Nat) : Int) == 0))), (5, (Value.bool (((r.rows.length : Nat) : Int) == 0)))] (by kernel_rfl) rfl (by kernel_rfl) ?_
     refine Dr.done (by kernel_rfl) ?_
     refine q_ret (by kernel_rfl) ?_
     refine ⟨(Value.bool (((r.rows.length : Nat) : Int) == 0)), retv_tmp rfl rfl, ?_⟩
     exact ⟨_, rfl, (by first | (rw [fits_wrong (by omega)]; first | (simp only [decide_eq_true_eq, Bool.false_eq_true, false_iff, true_iff]; omega) | (simp_all; done) | (simp_all; omega)) | (rw [fits_err (by omega) (by omega)]; first | (simp only [decide_eq_true_eq, Bool.false_eq_true, false_iff, true_iff]; omega) | (simp_all; done) | (simp_all; omega)) | (rw [fits_bal (by omega) (by omega) (by omega)]; first | (simp only [decide_eq_true_eq, Bool.false_eq_true, false_iff, true_iff]; omega) | (simp_all; done) | (simp_all; omega)) | (rw [fits_bare (by omega) (by omega) (by omega) (by omega)]; first | (simp only [decide_eq_true_eq, Bool.false_eq_true, false_iff, true_iff]; omega) | (simp_all; done) | (simp_all; omega)) | (rw [fits_rows (by omega) (by omega) (by omega)]; simp; omega)), K0⟩
    ·rw [h35]
     have p37 : (decide (r.why ∈ (mayL o.kind))) = false := h35
     have hmem := of_decide_eq_false h35
     refine Dr.takes (fuel' := 0) (is' := [9, 8, 7, 6, 5, 2, 4, 3, 1, 0]) [7, 8, 9] [(2, (ptr b1)), (3, (ptr b7)), (4, (Value.bool false)), (5, (Value.bool (((r.rows.length : Nat) : Int) == 0)))] (by kernel_rfl) rfl (by kernel_rfl) ?_
     refine Dr.done (by kernel_rfl) ?_
     refine q_ret (by kernel_rfl) ?_
     refine ⟨(Value.bool false), retv_tmp rfl rfl, ?_⟩
     exact ⟨_, rfl, (by first | (rw [fits_wrong (by omega)]; first | (simp only [decide_eq_true_eq, Bool.false_eq_true, false_iff, true_iff]; omega) | (simp_all; done) | (simp_all; omega)) | (rw [fits_err (by omega) (by omega)]; first | (simp only [decide_eq_true_eq, Bool.false_eq_true, false_iff, true_iff]; omega) | (simp_all; done) | (simp_all; omega)) | (rw [fits_bal (by omega) (by omega) (by omega)]; first | (simp only [decide_eq_true_eq, Bool.false_eq_true, false_iff, true_iff]; omega) | (simp_all; done) | (simp_all; omega)) | (rw [fits_bare (by omega) (by omega) (by omega) (by omega)]; first | (simp only [decide_eq_true_eq, Bool.false_eq_true, false_iff, true_iff]; omega) | (simp_all; done) | (simp_all; omega)) | (rw [fits_rows (by omega) (by omega) (by omega)]; simp; omega)), K0⟩
   ·rw [h23]
    have p38 : r.why = 0 := of_bne_f h23
    refine qs ?_
    refine qg ?_
    refine og 1 [(2, (ptr b1)), (3, (ptr b7)), (4, (Value.bool false)), (5, (Value.bool (((r.rows.length : Nat) : Int) == 0))), (43, (ptr b1))] 1 ?_
    refine Ops.go (v := (i64 o.kind)) (by kernel_rfl) (Runs.load (t := 3) (a := ⟨b1, 0, none⟩) (by kernel_rfl) (H4.loads (by kernel_rfl))) (d := (some 44)) (by kernel_rfl) rfl ?_
    refine og 2 [(2, (ptr b1)), (3, (ptr b7)), (4, (Value.bool false)), (5, (Value.bool (((r.rows.length : Nat) : Int) == 0))), (42, (Value.bool (o.kind == 5)))] 4 ?_
    refine od ?_
    refine q_cond (o := .tmp 42) (b := (o.kind == 5)) (by kernel_rfl) rfl (fun h39 => ?_) (fun h39 => ?_)
    ·rw [h39]
     have p40 : o.kind = 5 := of_beq_t h39
     refine qs ?_
     refine qg ?_
     refine og 1 [(2, (ptr b1)), (3, (ptr b7)), (4, (Value.bool false)), (5, (Value.bool (((r.rows.length : Nat) : Int) == 0))), (46, (Value.pointer (some ⟨b7, 1, none⟩)))] 1 ?_
     refine Ops.go (v := (i64 r.amount)) (by kernel_rfl) (Runs.load (t := 2) (a := ⟨b7, 1, none⟩) (by kernel_rfl) (H10.loads (by kernel_rfl))) (d := (some 47)) (by kernel_rfl) rfl ?_
     refine og 2 [(2, (ptr b1)), (3, (ptr b7)), (4, (Value.bool false)), (5, (Value.bool (((r.rows.length : Nat) : Int) == 0))), (49, (Value.bool (decide (r.amount ≥ 0))))] 4 ?_
     refine Ops.split (decide (r.amount ≥ 0)) (fun h41 => ?_) (fun h41 => ?_)
     ·rw [h41]
      have p42 : r.amount ≥ 0 := of_decide_eq_true h41
      refine og 1 [(2, (ptr b1)), (3, (ptr b7)), (4, (Value.bool false)), (5, (Value.bool (((r.rows.length : Nat) : Int) == 0))), (49, (Value.bool true)), (50, (Value.pointer (some ⟨b7, 2, none⟩)))] 5 ?_
      refine Ops.go (v := (Value.slice A r.rows.length c)) (by kernel_rfl) (Runs.load (t := 28) (a := ⟨b7, 2, none⟩) (by kernel_rfl) (H10.loads (by kernel_rfl))) (d := (some 51)) (by kernel_rfl) rfl ?_
      refine og 4 [(2, (ptr b1)), (3, (ptr b7)), (4, (Value.bool (((r.rows.length : Nat) : Int) == 0))), (5, (Value.bool (((r.rows.length : Nat) : Int) == 0)))] 10 ?_
      refine od ?_
      refine q_ret (by kernel_rfl) ?_
      refine ⟨(Value.bool (((r.rows.length : Nat) : Int) == 0)), retv_tmp rfl rfl, ?_⟩
      exact ⟨_, rfl, (by first | (rw [fits_wrong (by omega)]; first | (simp only [decide_eq_true_eq, Bool.false_eq_true, false_iff, true_iff]; omega) | (simp_all; done) | (simp_all; omega)) | (rw [fits_err (by omega) (by omega)]; first | (simp only [decide_eq_true_eq, Bool.false_eq_true, false_iff, true_iff]; omega) | (simp_all; done) | (simp_all; omega)) | (rw [fits_bal (by omega) (by omega) (by omega)]; first | (simp only [decide_eq_true_eq, Bool.false_eq_true, false_iff, true_iff]; omega) | (simp_all; done) | (simp_all; omega)) | (rw [fits_bare (by omega) (by omega) (by omega) (by omega)]; first | (simp only [decide_eq_true_eq, Bool.false_eq_true, false_iff, true_iff]; omega) | (simp_all; done) | (simp_all; omega)) | (rw [fits_rows (by omega) (by omega) (by omega)]; simp; omega)), K0⟩
     ·rw [h41]
      have p43 : ¬ (r.amount ≥ 0) := of_decide_eq_false h41
      refine og 6 [(2, (ptr b1)), (3, (ptr b7)), (4, (Value.bool false)), (5, (Value.bool (((r.rows.length : Nat) : Int) == 0)))] 10 ?_
      refine od ?_
      refine q_ret (by kernel_rfl) ?_
      refine ⟨(Value.bool false), retv_tmp rfl rfl, ?_⟩
      exact ⟨_, rfl, (by first | (rw [fits_wrong (by omega)]; first | (simp only [decide_eq_true_eq, Bool.false_eq_true, false_iff, true_iff]; omega) | (simp_all; done) | (simp_all; omega)) | (rw [fits_err (by omega) (by omega)]; first | (simp only [decide_eq_true_eq, Bool.false_eq_true, false_iff, true_iff]; omega) | (simp_all; done) | (simp_all; omega)) | (rw [fits_bal (by omega) (by omega) (by omega)]; first | (simp only [decide_eq_true_eq, Bool.false_eq_true, false_iff, true_iff]; omega) | (simp_all; done) | (simp_all; omega)) | (rw [fits_bare (by omega) (by omega) (by omega) (by omega)]; first | (simp only [decide_eq_true_eq, Bool.false_eq_true, false_iff, true_iff]; omega) | (simp_all; done) | (simp_all; omega)) | (rw [fits_rows (by omega) (by omega) (by omega)]; simp; omega)), K0⟩
    ·rw [h39]
     have p44 : ¬ (o.kind = 5) := of_beq_f h39
     refine qs ?_
     refine qg ?_
     refine og 1 [(3, (ptr b7)), (4, (Value.bool false)), (5, (Value.bool (((r.rows.length : Nat) : Int) == 0))), (56, (ptr b1))] 1 ?_
     refine Ops.go (v := (i64 o.kind)) (by kernel_rfl) (Runs.load (t := 3) (a := ⟨b1, 0, none⟩) (by kernel_rfl) (H4.loads (by kernel_rfl))) (d := (some 57)) (by kernel_rfl) rfl ?_
     refine og 2 [(3, (ptr b7)), (4, (Value.bool false)), (5, (Value.bool (((r.rows.length : Nat) : Int) == 0))), (55, (Value.bool (o.kind != 6)))] 4 ?_
     refine od ?_
     refine q_cond (o := .tmp 55) (b := (o.kind != 6)) (by kernel_rfl) rfl (fun h45 => ?_) (fun h45 => ?_)
     ·rw [h45]
      have p46 : ¬ (o.kind = 6) := of_bne_t h45
      refine qs ?_
      refine qg ?_
      refine og 2 [(3, (ptr b7)), (4, (Value.bool (((r.rows.length : Nat) : Int) == 0)))] 2 ?_
      refine od ?_
      refine q_ret (by kernel_rfl) ?_
      refine ⟨(Value.bool (((r.rows.length : Nat) : Int) == 0)), retv_tmp rfl rfl, ?_⟩
      exact ⟨_, rfl, (by first | (rw [fits_wrong (by omega)]; first | (simp only [decide_eq_true_eq, Bool.false_eq_true, false_iff, true_iff]; omega) | (simp_all; done) | (simp_all; omega)) | (rw [fits_err (by omega) (by omega)]; first | (simp only [decide_eq_true_eq, Bool.false_eq_true, false_iff, true_iff]; omega) | (simp_all; done) | (simp_all; omega)) | (rw [fits_bal (by omega) (by omega) (by omega)]; first | (simp only [decide_eq_true_eq, Bool.false_eq_true, false_iff, true_iff]; omega) | (simp_all; done) | (simp_all; omega)) | (rw [fits_bare (by omega) (by omega) (by omega) (by omega)]; first | (simp only [decide_eq_true_eq, Bool.false_eq_true, false_iff, true_iff]; omega) | (simp_all; done) | (simp_all; omega)) | (rw [fits_rows (by omega) (by omega) (by omega)]; simp; omega)), K0⟩
     ·rw [h45]
      have p47 : o.kind = 6 := of_bne_f h45
      refine q_skip (by kernel_rfl) ?_
      refine qs ?_
      refine qs ?_
      refine qg ?_
      refine og 1 [(3, (ptr b7)), (4, (Value.bool false)), (60, (Value.pointer (some ⟨b7, 2, none⟩)))] 1 ?_
      refine Ops.go (v := (Value.slice A r.rows.length c)) (by kernel_rfl) (Runs.load (t := 28) (a := ⟨b7, 2, none⟩) (by kernel_rfl) (H10.loads (by kernel_rfl))) (d := (some 61)) (by kernel_rfl) rfl ?_
      refine og 2 [(3, (ptr b7)), (4, (Value.bool false)), (61, (Value.slice A r.rows.length c)), (62, (i64 ((r.rows.length : Nat) : Int))), (63, (i64 0))] 4 ?_
      refine od ?_
      refine q_block (id := 1) (by kernel_rfl) ?_
      refine q_keep (R := [(3, (ptr b7)), (61, (Value.slice A r.rows.length c)), (62, (i64 ((r.rows.length : Nat) : Int))), (63, (i64 0))]) (by kernel_rfl) ?_
      refine q_loop (fun (i : Nat) L (wx : World) => L = [(3, (ptr b7)), (61, (Value.slice A r.rows.length c)), (62, (i64 ((r.rows.length : Nat) : Int))), (63, (i64 ((i : Nat) : Int)))] ∧ i ≤ r.rows.length ∧ (∀ j, j < i → AdjP r.rows j) ∧ Keeps none_ w wx ∧ Has wx b1 (rowL [(i64 o.kind), (Value.string (str o.frm)), (Value.string (str o.to)), (i64 o.amount), (Value.string (str o.key)), (i64 o.slot), (i64 o.shard)] 24) ∧ Has wx b7 (rowL [(i64 r.why), (i64 r.amount), (Value.slice A r.rows.length c)] 30)) (fun (i : Nat) => r.rows.length - i) 0 (by kernel_rfl) ⟨rfl, Nat.zero_le _, (fun j hj => absurd hj (Nat.not_lt_zero _)), K0, H4, H10⟩ ?_
      clear H4 H10 K0
      rintro i _ w48 ⟨rfl, hi, hAdj, K49, H50, H51⟩
      refine qs ?_
      refine qg ?_
      refine og 1 [(3, (ptr b7)), (61, (Value.slice A r.rows.length c)), (62, (i64 ((r.rows.length : Nat) : Int))), (63, (i64 ((i : Nat) : Int))), (64, (Value.bool (decide (((i : Nat) : Int) < ((r.rows.length : Nat) : Int)))))] 1 ?_
      refine od ?_
      refine qs ?_
      refine q_cond (o := .tmp 64) (b := (decide (((i : Nat) : Int) < ((r.rows.length : Nat) : Int)))) (by kernel_rfl) rfl (fun h52 => ?_) (fun h52 => ?_)
      ·rw [h52]
       have p53 : ((i : Nat) : Int) < ((r.rows.length : Nat) : Int) := of_decide_eq_true h52
       obtain ⟨x, hx⟩ : ∃ y, r.rows[i]? = some y := ⟨_, List.getElem?_eq_getElem (by omega)⟩
       obtain ⟨y, hy⟩ : ∃ y, r.rows[i - 1]? = some y := ⟨_, List.getElem?_eq_getElem (by omega)⟩
       have hy2 : r.rows[((((i : Nat) : Int) - 1).toNat)]? = some y := by rw [show ((((i : Nat) : Int) - 1).toNat) = i - 1 from by omega]; exact hy
       obtain ⟨rb54, ro55, hA56⟩ := Rd.addr (Rd.keep0 (by decide) hR K49) (by omega)
       refine q_skip (by kernel_rfl) ?_
       refine qs ?_
       refine q_block (id := 2) (by kernel_rfl) ?_
       refine qs ?_
       refine qg ?_
       refine og 1 [(3, (ptr b7)), (61, (Value.slice A r.rows.length c)), (62, (i64 ((r.rows.length : Nat) : Int))), (63, (i64 ((i : Nat) : Int))), (64, (Value.bool true)), (65, (i64 ((i : Nat) : Int)))] 1 ?_
       refine Ops.go (by kernel_rfl) (Runs.ixSliceE (k := IntKind.i64) (t := 28) (len := r.rows.length) (cap := c) (s := 2) (off' := ro55 + i * 2) (i := ((i : Nat) : Int)) hA56 (by kernel_rfl) (by kernel_rfl) (by omega) (by omega) (by omega)) (d := (some 66)) (by kernel_rfl) rfl ?_
       refine Ops.go (v := (agg [(Value.string (str x.name)), (i64 x.amount)])) (by kernel_rfl) (Runs.load (t := 47) (a := ⟨rb54, ro55 + i * 2, none⟩) (by kernel_rfl) (RdT.ld (f := RowM.cells) (x := x) RowM.two (Rd.keep0 (by decide) hR K49) (by kernel_rfl) (by kernel_rfl) hA56 hx)) (d := (some 67)) (by kernel_rfl) rfl ?_
       refine Ops.new (o := rowL [(Value.string ByteArray.empty), (i64 0)] 47) (V := fun b => (ptr b)) (by kernel_rfl) (d := (some 8)) (by kernel_rfl) (fun b => rfl) (fun b57 w58 hb59 H60 K61 hs62 => ?_)
       have lb57b1 : b1 < b57 := by have := H50.lt; omega
       have lb57b7 : b7 < b57 := by have := H51.lt; omega
       have nb57 : w.heap.size ≤ b57 := by have := K49.size; omega
       replace K49 := K49.trans K61 (U := none_) (fun i h1 h2 => h2) (fun i h1 h2 => by exact h2)
       replace H50 := H50.keep K61 (fun h => h)
       replace H51 := H51.keep K61 (fun h => h)
       clear K61 hs62
       refine og 1 [(3, (ptr b7)), (7, (i64 ((i : Nat) : Int))), (8, (ptr b57)), (61, (Value.slice A r.rows.length c)), (62, (i64 ((r.rows.length : Nat) : Int))), (63, (i64 ((i : Nat) : Int))), (64, (Value.bool true)), (67, (agg [(Value.string (str x.name)), (i64 x.amount)]))] 5 ?_
       refine Ops.put (t := 47) (b := b57) (off := 0) (v := (agg [(Value.string (str x.name)), (i64 x.amount)])) (ys := [(Value.string (str x.name)), (i64 x.amount)]) (by kernel_rfl) (by kernel_rfl) H60 (by kernel_rfl) (d := none) (by kernel_rfl) rfl (fun w63 H64 K65 => ?_)
       clear H60
       replace K49 := K49.trans K65 (U := none_) (fun i h1 h2 => h2) (fun i h1 h2 => by have h2 : i = b57 := h2; exfalso; omega)
       replace H50 := H50.keep K65 (by intro h; change b1 = b57 at h; omega)
       replace H51 := H51.keep K65 (by intro h; change b7 = b57 at h; omega)
       clear K65
       refine od ?_
       refine qs ?_
       refine q_draw (fun wz => Keeps none_ w63 wz) 19 (by kernel_rfl) (by kernel_rfl) (by kernel_rfl) (fun w66 K67 _ _ => ⟨K67, ?_⟩)
       replace K49 := K49.trans K67 (U := none_) (fun i h1 h2 => h2) (fun i h1 h2 => by exact h2)
       replace H50 := H50.keep K67 (fun h => h)
       replace H51 := H51.keep K67 (fun h => h)
       replace H64 := H64.keep K67 (fun h => h)
       refine Dr.strong (S' := (fun wz => Keeps none_ w66 wz)) (Keeps.refl w66) (fun wz hx => K67.trans hx (fun i _ h => h) (fun _ _ h => h)) ?_
       clear K67
       refine Dr.takes (fuel' := 18) (is' := [0]) [0] [(3, (ptr b7)), (7, (i64 ((i : Nat) : Int))), (8, (ptr b57)), (61, (Value.slice A r.rows.length c)), (62, (i64 ((r.rows.length : Nat) : Int))), (63, (i64 ((i : Nat) : Int))), (64, (Value.bool true)), (68, (Value.pointer (some ⟨b57, 1, none⟩)))] (by kernel_rfl) rfl (by kernel_rfl) ?_
       refine Dr.take (i := 1) (v := (i64 x.amount)) (by kernel_rfl) (by kernel_rfl) (fun wz hS => Runs.load (t := 2) (a := ⟨b57, 1, none⟩) (by kernel_rfl) ((H64.keep hS (fun h => h)).loads (by kernel_rfl))) (d := (some 69)) (by kernel_rfl) rfl ?_
       refine Dr.takes (fuel' := 15) (is' := [3, 2, 1, 0]) [2, 3] [(3, (ptr b7)), (7, (i64 ((i : Nat) : Int))), (8, (ptr b57)), (61, (Value.slice A r.rows.length c)), (62, (i64 ((r.rows.length : Nat) : Int))), (63, (i64 ((i : Nat) : Int))), (64, (Value.bool true)), (71, (Value.bool (decide (x.amount < 0))))] (by kernel_rfl) rfl (by kernel_rfl) ?_
       refine Dr.split (decide (x.amount < 0)) (fun h68 => ?_) (fun h68 => ?_)
       ·rw [h68]
        have p69 : x.amount < 0 := of_decide_eq_true h68
        refine Dr.takes (fuel' := 0) (is' := [18, 17, 16, 15, 14, 13, 12, 11, 10, 9, 8, 7, 6, 5, 4, 3, 2, 1, 0]) [4, 5, 6, 7, 8, 9, 10, 11, 12, 13, 14, 15, 16, 17, 18] [(3, (ptr b7)), (7, (i64 ((i : Nat) : Int))), (8, (ptr b57)), (61, (Value.slice A r.rows.length c)), (62, (i64 ((r.rows.length : Nat) : Int))), (63, (i64 ((i : Nat) : Int))), (64, (Value.bool true)), (86, (Value.bool true))] (by kernel_rfl) rfl (by kernel_rfl) ?_
        refine Dr.done (by kernel_rfl) ?_
        refine q_then (o := .tmp 86) (by kernel_rfl) rfl ?_
        refine qs ?_
        refine qg ?_
        refine og 1 [(3, (ptr b7)), (4, (Value.bool false)), (7, (i64 ((i : Nat) : Int))), (8, (ptr b57)), (61, (Value.slice A r.rows.length c)), (62, (i64 ((r.rows.length : Nat) : Int))), (63, (i64 ((i : Nat) : Int))), (64, (Value.bool true)), (86, (Value.bool true))] 1 ?_
        refine od ?_
        refine q_ret (by kernel_rfl) ?_
        refine ⟨(Value.bool false), retv_tmp rfl rfl, ?_⟩
        exact ⟨_, rfl, ⟨fun h => (by cases h), fun h => by rw [fits_rows (by omega) (by omega) (by omega)] at h; have h2 := asc_at h.2 hx hy; exfalso; first | omega | exact hlt (h2.2 (by omega))⟩, K49⟩
       ·rw [h68]
        have p70 : ¬ (x.amount < 0) := of_decide_eq_false h68
        refine Dr.takes (fuel' := 12) (is' := [6, 5, 4, 3, 2, 1, 0]) [4, 5, 6] [(3, (ptr b7)), (7, (i64 ((i : Nat) : Int))), (8, (ptr b57)), (61, (Value.slice A r.rows.length c)), (62, (i64 ((r.rows.length : Nat) : Int))), (63, (i64 ((i : Nat) : Int))), (64, (Value.bool true)), (71, (Value.bool false)), (74, (Value.bool (decide (((i : Nat) : Int) > 0))))] (by kernel_rfl) rfl (by kernel_rfl) ?_
        refine Dr.split (decide (((i : Nat) : Int) > 0)) (fun h71 => ?_) (fun h71 => ?_)
        ·rw [h71]
         have p72 : ((i : Nat) : Int) > 0 := of_decide_eq_true h71
         refine Dr.takes (fuel' := 11) (is' := [7, 6, 5, 4, 3, 2, 1, 0]) [7] [(3, (ptr b7)), (7, (i64 ((i : Nat) : Int))), (8, (ptr b57)), (61, (Value.slice A r.rows.length c)), (62, (i64 ((r.rows.length : Nat) : Int))), (63, (i64 ((i : Nat) : Int))), (64, (Value.bool true)), (71, (Value.bool false)), (74, (Value.bool true)), (75, (Value.pointer (some ⟨b7, 2, none⟩)))] (by kernel_rfl) rfl (by kernel_rfl) ?_
         refine Dr.take (i := 8) (v := (Value.slice A r.rows.length c)) (by kernel_rfl) (by kernel_rfl) (fun wz hS => Runs.load (t := 28) (a := ⟨b7, 2, none⟩) (by kernel_rfl) ((H51.keep hS (fun h => h)).loads (by kernel_rfl))) (d := (some 76)) (by kernel_rfl) rfl ?_
         refine Dr.takes (fuel' := 8) (is' := [10, 9, 8, 7, 6, 5, 4, 3, 2, 1, 0]) [9, 10] [(3, (ptr b7)), (7, (i64 ((i : Nat) : Int))), (8, (ptr b57)), (61, (Value.slice A r.rows.length c)), (62, (i64 ((r.rows.length : Nat) : Int))), (63, (i64 ((i : Nat) : Int))), (64, (Value.bool true)), (71, (Value.bool false)), (74, (Value.bool true)), (76, (Value.slice A r.rows.length c)), (78, (i64 (IntKind.i64.wrap (((i : Nat) : Int) - 1))))] (by kernel_rfl) rfl (by kernel_rfl) ?_
         have e73 : IntKind.i64.wrap (((i : Nat) : Int) - 1) = ((i : Nat) : Int) - 1 := wrap_i64 (by omega) (by omega)
         rw [e73]
         refine Dr.take (i := 11) (v := (Value.pointer (some ⟨rb54, ro55 + ((((i : Nat) : Int) - 1).toNat) * 2, none⟩))) (by kernel_rfl) (by kernel_rfl) (fun wz hS => Runs.ixSliceE (k := IntKind.i64) (t := 28) (len := r.rows.length) (cap := c) (s := 2) (off' := ro55 + ((((i : Nat) : Int) - 1).toNat) * 2) (i := ((i : Nat) : Int) - 1) hA56 (by kernel_rfl) (by kernel_rfl) (by omega) (by omega) (by omega)) (d := (some 79)) (by kernel_rfl) rfl ?_
         refine Dr.takes (fuel' := 6) (is' := [12, 11, 10, 9, 8, 7, 6, 5, 4, 3, 2, 1, 0]) [12] [(3, (ptr b7)), (7, (i64 ((i : Nat) : Int))), (8, (ptr b57)), (61, (Value.slice A r.rows.length c)), (62, (i64 ((r.rows.length : Nat) : Int))), (63, (i64 ((i : Nat) : Int))), (64, (Value.bool true)), (71, (Value.bool false)), (74, (Value.bool true)), (80, (Value.pointer (some ⟨rb54, ro55 + ((((i : Nat) : Int) - 1).toNat) * 2, none⟩)))] (by kernel_rfl) rfl (by kernel_rfl) ?_
         refine Dr.take (i := 13) (v := (Value.string (str y.name))) (by kernel_rfl) (by kernel_rfl) (fun wz hS => Runs.load (t := 9) (a := ⟨rb54, ro55 + ((((i : Nat) : Int) - 1).toNat) * 2, none⟩) (by kernel_rfl) (RdT.ldf (f := RowM.cells) (x := y) (o := 0) RowM.two (Rd.keep0 (by decide) hR (K49.trans hS (fun _ _ h => h) (fun _ _ h => h))) (by kernel_rfl) hA56 hy2 rfl)) (d := (some 81)) (by kernel_rfl) rfl ?_
         refine Dr.takes (fuel' := 4) (is' := [14, 13, 12, 11, 10, 9, 8, 7, 6, 5, 4, 3, 2, 1, 0]) [14] [(3, (ptr b7)), (7, (i64 ((i : Nat) : Int))), (8, (ptr b57)), (61, (Value.slice A r.rows.length c)), (62, (i64 ((r.rows.length : Nat) : Int))), (63, (i64 ((i : Nat) : Int))), (64, (Value.bool true)), (71, (Value.bool false)), (74, (Value.bool true)), (81, (Value.string (str y.name))), (82, (ptr b57))] (by kernel_rfl) rfl (by kernel_rfl) ?_
         refine Dr.take (i := 15) (v := (Value.string (str x.name))) (by kernel_rfl) (by kernel_rfl) (fun wz hS => Runs.load (t := 9) (a := ⟨b57, 0, none⟩) (by kernel_rfl) ((H64.keep hS (fun h => h)).loads (by kernel_rfl))) (d := (some 83)) (by kernel_rfl) rfl ?_
         refine Dr.take (i := 16) (v := (Value.bool (!(decide (y.name < x.name))))) (by kernel_rfl) (by kernel_rfl) (fun wz hS => Runs.strgeq (t := 9) (by kernel_rfl)) (d := (some 84)) (by kernel_rfl) rfl ?_
         refine Dr.takes (fuel' := 0) (is' := [18, 17, 16, 15, 14, 13, 12, 11, 10, 9, 8, 7, 6, 5, 4, 3, 2, 1, 0]) [17, 18] [(3, (ptr b7)), (7, (i64 ((i : Nat) : Int))), (8, (ptr b57)), (61, (Value.slice A r.rows.length c)), (62, (i64 ((r.rows.length : Nat) : Int))), (63, (i64 ((i : Nat) : Int))), (64, (Value.bool true)), (86, (Value.bool (!(decide (y.name < x.name)))))] (by kernel_rfl) rfl (by kernel_rfl) ?_
         refine Dr.done (by kernel_rfl) ?_
         refine q_cond (o := .tmp 86) (b := (!(decide (y.name < x.name)))) (by kernel_rfl) rfl (fun h74 => ?_) (fun h74 => ?_)
         ·rw [h74]
          have p75 : (decide (y.name < x.name)) = false := (bnot_true h74)
          have hlt := of_decide_eq_false (bnot_true h74)
          refine qs ?_
          refine qg ?_
          refine og 1 [(3, (ptr b7)), (4, (Value.bool false)), (7, (i64 ((i : Nat) : Int))), (8, (ptr b57)), (61, (Value.slice A r.rows.length c)), (62, (i64 ((r.rows.length : Nat) : Int))), (63, (i64 ((i : Nat) : Int))), (64, (Value.bool true)), (86, (Value.bool true))] 1 ?_
          refine od ?_
          refine q_ret (by kernel_rfl) ?_
          refine ⟨(Value.bool false), retv_tmp rfl rfl, ?_⟩
          exact ⟨_, rfl, ⟨fun h => (by cases h), fun h => by rw [fits_rows (by omega) (by omega) (by omega)] at h; have h2 := asc_at h.2 hx hy; exfalso; first | omega | exact hlt (h2.2 (by omega))⟩, K49⟩
         ·rw [h74]
          have p76 : (decide (y.name < x.name)) = true := (bnot_false h74)
          have hlt := of_decide_eq_true (bnot_false h74)
          refine q_skip (by kernel_rfl) ?_
          refine qg ?_
          refine og 1 [(3, (ptr b7)), (7, (i64 ((i : Nat) : Int))), (8, (ptr b57)), (61, (Value.slice A r.rows.length c)), (62, (i64 ((r.rows.length : Nat) : Int))), (63, (i64 ((i : Nat) : Int))), (64, (Value.bool true)), (86, (Value.bool false)), (87, (i64 (IntKind.i64.wrap (((i : Nat) : Int) + 1))))] 1 ?_
          have e77 : IntKind.i64.wrap (((i : Nat) : Int) + 1) = ((i + 1 : Nat) : Int) := by rw [wrap_i64 (by omega) (by omega)]; omega
          rw [e77]
          clear e77
          refine og 1 [(3, (ptr b7)), (7, (i64 ((i : Nat) : Int))), (8, (ptr b57)), (61, (Value.slice A r.rows.length c)), (62, (i64 ((r.rows.length : Nat) : Int))), (63, (i64 ((i + 1 : Nat) : Int))), (64, (Value.bool true)), (86, (Value.bool false))] 2 ?_
          refine Ops.keep (R := [(3, (ptr b7)), (61, (Value.slice A r.rows.length c)), (62, (i64 ((r.rows.length : Nat) : Int))), (63, (i64 ((i + 1 : Nat) : Int)))]) (by kernel_rfl) ?_
          refine od ?_
          exact ⟨i + 1, ⟨rfl, (by omega), (adj_step hx hy hAdj (by omega) (fun h0 => by first | exact hlt | (exfalso; omega))), K49, H50, H51⟩, (show r.rows.length - (i + 1) < r.rows.length - i from by omega)⟩
        ·rw [h71]
         have p78 : ¬ (((i : Nat) : Int) > 0) := of_decide_eq_false h71
         refine Dr.takes (fuel' := 0) (is' := [18, 17, 16, 15, 14, 13, 12, 11, 10, 9, 8, 7, 6, 5, 4, 3, 2, 1, 0]) [7, 8, 9, 10, 11, 12, 13, 14, 15, 16, 17, 18] [(3, (ptr b7)), (7, (i64 ((i : Nat) : Int))), (8, (ptr b57)), (61, (Value.slice A r.rows.length c)), (62, (i64 ((r.rows.length : Nat) : Int))), (63, (i64 ((i : Nat) : Int))), (64, (Value.bool true)), (86, (Value.bool false))] (by kernel_rfl) rfl (by kernel_rfl) ?_
         refine Dr.done (by kernel_rfl) ?_
         refine q_else (o := .tmp 86) (by kernel_rfl) rfl ?_
         refine q_skip (by kernel_rfl) ?_
         refine qg ?_
         refine og 1 [(3, (ptr b7)), (7, (i64 ((i : Nat) : Int))), (8, (ptr b57)), (61, (Value.slice A r.rows.length c)), (62, (i64 ((r.rows.length : Nat) : Int))), (63, (i64 ((i : Nat) : Int))), (64, (Value.bool true)), (86, (Value.bool false)), (87, (i64 (IntKind.i64.wrap (((i : Nat) : Int) + 1))))] 1 ?_
         have e79 : IntKind.i64.wrap (((i : Nat) : Int) + 1) = ((i + 1 : Nat) : Int) := by rw [wrap_i64 (by omega) (by omega)]; omega
         rw [e79]
         clear e79
         refine og 1 [(3, (ptr b7)), (7, (i64 ((i : Nat) : Int))), (8, (ptr b57)), (61, (Value.slice A r.rows.length c)), (62, (i64 ((r.rows.length : Nat) : Int))), (63, (i64 ((i + 1 : Nat) : Int))), (64, (Value.bool true)), (86, (Value.bool false))] 2 ?_
         refine Ops.keep (R := [(3, (ptr b7)), (61, (Value.slice A r.rows.length c)), (62, (i64 ((r.rows.length : Nat) : Int))), (63, (i64 ((i + 1 : Nat) : Int)))]) (by kernel_rfl) ?_
         refine od ?_
         exact ⟨i + 1, ⟨rfl, (by omega), (adj_step hx hy hAdj (by omega) (fun h0 => by first | exact hlt | (exfalso; omega))), K49, H50, H51⟩, (show r.rows.length - (i + 1) < r.rows.length - i from by omega)⟩
      ·rw [h52]
       have p80 : ¬ (((i : Nat) : Int) < ((r.rows.length : Nat) : Int)) := of_decide_eq_false h52
       refine q_exit (id := 1) (by kernel_rfl) ?_
       refine qs ?_
       refine qg ?_
       refine og 1 [(88, (Value.pointer (some ⟨b7, 1, none⟩)))] 1 ?_
       refine Ops.go (v := (i64 r.amount)) (by kernel_rfl) (Runs.load (t := 2) (a := ⟨b7, 1, none⟩) (by kernel_rfl) (H51.loads (by kernel_rfl))) (d := (some 89)) (by kernel_rfl) rfl ?_
       refine og 2 [(4, (Value.bool (r.amount == 0)))] 4 ?_
       refine od ?_
       refine q_ret (by kernel_rfl) ?_
       refine ⟨(Value.bool (r.amount == 0)), retv_tmp rfl rfl, ?_⟩
       exact ⟨_, rfl, (by rw [fits_rows (by omega) (by omega) (by omega)]; have hA : AscP r.rows := fun j hj => hAdj j (by omega); first | (simp only [decide_eq_true_eq, hA, and_true]; done) | (simp [hA]; omega) | (simp [hA])), K49⟩
 ·rw [h13]
  have p81 : ¬ (r.amount = 0) := of_beq_f h13
  refine og 6 [(2, (ptr b1)), (3, (ptr b7)), (4, (Value.bool false)), (5, (Value.bool false))] 10 ?_
  refine od ?_
  refine qs ?_
  refine qs ?_
  refine qg ?_
  refine Ops.go (v := (agg [(i64 o.kind), (Value.string (str o.frm)), (Value.string (str o.to)), (i64 o.amount), (Value.string (str o.key)), (i64 o.slot), (i64 o.shard)])) (by kernel_rfl) (Runs.load (t := 24) (a := ⟨b1, 0, none⟩) (by kernel_rfl) (H4.loads (by kernel_rfl))) (d := (some 18)) (by kernel_rfl) rfl ?_
  refine Ops.call (by kernel_rfl) (d := (some 19)) (by kernel_rfl) (Wrong_calls _ o) ?_
  rintro _ w83 ⟨rfl, K82⟩
  refine ⟨_, _, rfl, rfl, ?_⟩
  replace K0 := K0.t0 K82
  replace H4 := H4.keep K82 (fun h => h)
  replace H10 := H10.keep K82 (fun h => h)
  clear K82
  refine og 1 [(2, (ptr b1)), (3, (ptr b7)), (4, (Value.bool false)), (5, (Value.bool false)), (6, (i64 (wrongE o)))] 3 ?_
  refine od ?_
  refine qs ?_
  refine qg ?_
  refine og 2 [(2, (ptr b1)), (3, (ptr b7)), (4, (Value.bool false)), (5, (Value.bool false)), (6, (i64 (wrongE o))), (21, (Value.bool ((wrongE o) != 0)))] 2 ?_
  refine od ?_
  refine q_cond (o := .tmp 21) (b := ((wrongE o) != 0)) (by kernel_rfl) rfl (fun h84 => ?_) (fun h84 => ?_)
  ·rw [h84]
   have p85 : ¬ (wrongE o = 0) := of_bne_t h84
   refine qs ?_
   refine qg ?_
   refine og 8 [(2, (ptr b1)), (3, (ptr b7)), (4, (Value.bool false)), (5, (Value.bool false))] 8 ?_
   refine od ?_
   refine q_ret (by kernel_rfl) ?_
   refine ⟨(Value.bool false), retv_tmp rfl rfl, ?_⟩
   exact ⟨_, rfl, (by first | (rw [fits_wrong (by omega)]; first | (simp only [decide_eq_true_eq, Bool.false_eq_true, false_iff, true_iff]; omega) | (simp_all; done) | (simp_all; omega)) | (rw [fits_err (by omega) (by omega)]; first | (simp only [decide_eq_true_eq, Bool.false_eq_true, false_iff, true_iff]; omega) | (simp_all; done) | (simp_all; omega)) | (rw [fits_bal (by omega) (by omega) (by omega)]; first | (simp only [decide_eq_true_eq, Bool.false_eq_true, false_iff, true_iff]; omega) | (simp_all; done) | (simp_all; omega)) | (rw [fits_bare (by omega) (by omega) (by omega) (by omega)]; first | (simp only [decide_eq_true_eq, Bool.false_eq_true, false_iff, true_iff]; omega) | (simp_all; done) | (simp_all; omega)) | (rw [fits_rows (by omega) (by omega) (by omega)]; simp; omega)), K0⟩
  ·rw [h84]
   have p86 : wrongE o = 0 := of_bne_f h84
   refine q_skip (by kernel_rfl) ?_
   refine qs ?_
   refine q_block (id := 0) (by kernel_rfl) ?_
   refine qs ?_
   refine qg ?_
   refine og 1 [(2, (ptr b1)), (3, (ptr b7)), (4, (Value.bool false)), (5, (Value.bool false)), (30, (ptr b7))] 1 ?_
   refine Ops.go (v := (i64 r.why)) (by kernel_rfl) (Runs.load (t := 27) (a := ⟨b7, 0, none⟩) (by kernel_rfl) (H10.loads (by kernel_rfl))) (d := (some 31)) (by kernel_rfl) rfl ?_
   refine og 2 [(2, (ptr b1)), (3, (ptr b7)), (4, (Value.bool false)), (5, (Value.bool false)), (29, (Value.bool (r.why != 0)))] 4 ?_
   refine od ?_
   refine q_cond (o := .tmp 29) (b := (r.why != 0)) (by kernel_rfl) rfl (fun h87 => ?_) (fun h87 => ?_)
   ·rw [h87]
    have p88 : ¬ (r.why = 0) := of_bne_t h87
    refine qs ?_
    refine q_draw (fun wz => Keeps none_ w83 wz) 10 (by kernel_rfl) (by kernel_rfl) (by kernel_rfl) (fun w89 K90 _ _ => ⟨K90, ?_⟩)
    replace K0 := K0.t0 K90
    replace H4 := H4.keep K90 (fun h => h)
    replace H10 := H10.keep K90 (fun h => h)
    refine Dr.strong (S' := (fun wz => Keeps none_ w89 wz)) (Keeps.refl w89) (fun wz hx => K90.trans hx (fun i _ h => h) (fun _ _ h => h)) ?_
    clear K90
    refine Dr.takes (fuel' := 9) (is' := [0]) [0] [(2, (ptr b1)), (3, (ptr b7)), (4, (Value.bool false)), (5, (Value.bool false)), (33, (ptr b1))] (by kernel_rfl) rfl (by kernel_rfl) ?_
    refine Dr.take (i := 1) (v := (i64 o.kind)) (by kernel_rfl) (by kernel_rfl) (fun wz hS => Runs.load (t := 3) (a := ⟨b1, 0, none⟩) (by kernel_rfl) ((H4.keep hS (fun h => h)).loads (by kernel_rfl))) (d := (some 34)) (by kernel_rfl) rfl ?_
    refine Dr.takes (fuel' := 7) (is' := [3, 1, 0]) [3] [(2, (ptr b1)), (3, (ptr b7)), (4, (Value.bool false)), (5, (Value.bool false)), (34, (i64 o.kind)), (36, (ptr b7))] (by kernel_rfl) rfl (by kernel_rfl) ?_
    refine Dr.take (i := 4) (v := (i64 r.why)) (by kernel_rfl) (by kernel_rfl) (fun wz hS => Runs.load (t := 27) (a := ⟨b7, 0, none⟩) (by kernel_rfl) ((H10.keep hS (fun h => h)).loads (by kernel_rfl))) (d := (some 37)) (by kernel_rfl) rfl ?_
    refine Dr.call (i := 2) (by kernel_rfl) (by kernel_rfl) (d := (some 35)) (by kernel_rfl) (fun _ => may_calls _ o.kind) ?_
    rintro _ w94 ⟨A91, c92, rfl, K93, hR95⟩
    have hml96 := may_len o.kind
    replace K0 := K0.t0 K93
    replace H4 := H4.keep K93 (fun h => h)
    replace H10 := H10.keep K93 (fun h => h)
    refine ⟨_, _, rfl, rfl, K93, ?_⟩
    refine Dr.strong (S' := (fun wz => Keeps none_ w94 wz)) (Keeps.refl w94) (fun wz hx => K93.trans hx (fun i _ h => h) (fun _ _ h => h)) ?_
    clear K93
    refine Dr.call (i := 5) (by kernel_rfl) (by kernel_rfl) (d := (some 38)) (by kernel_rfl) (fun _ => contains_of Go.Proofs.Tryz.contains44 _ r.why hR95) ?_
    rintro _ w98 ⟨rfl, K97⟩
    replace K0 := K0.t0 K97
    replace H4 := H4.keep K97 (fun h => h)
    replace H10 := H10.keep K97 (fun h => h)
    replace hR95 := (Rd.keep0 (by omega) hR95 K97)
    refine ⟨_, _, rfl, rfl, K97, ?_⟩
    refine Dr.strong (S' := (fun wz => Keeps none_ w98 wz)) (Keeps.refl w98) (fun wz hx => K97.trans hx (fun i _ h => h) (fun _ _ h => h)) ?_
    clear K97
    refine Dr.takes (fuel' := 3) (is' := [6, 5, 2, 4, 3, 1, 0]) [6] [(2, (ptr b1)), (3, (ptr b7)), (4, (Value.bool false)), (5, (Value.bool false)), (39, (Value.bool (decide (r.why ∈ (mayL o.kind)))))] (by kernel_rfl) rfl (by kernel_rfl) ?_
    refine Dr.split (decide (r.why ∈ (mayL o.kind))) (fun h99 => ?_) (fun h99 => ?_)
    ·rw [h99]
     have p100 : (decide (r.why ∈ (mayL o.kind))) = true := h99
     have hmem := of_decide_eq_true h99
     refine Dr.takes (fuel' := 0) (is' := [9, 8, 7, 6, 5, 2, 4, 3, 1, 0]) [7, 8, 9] [(2, (ptr b1)), (3, (ptr b7)), (4, (Value.bool false)), (5, (Value.bool false))] (by kernel_rfl) rfl (by kernel_rfl) ?_
     refine Dr.done (by kernel_rfl) ?_
     refine q_ret (by kernel_rfl) ?_
     refine ⟨(Value.bool false), retv_tmp rfl rfl, ?_⟩
     exact ⟨_, rfl, (by first | (rw [fits_wrong (by omega)]; first | (simp only [decide_eq_true_eq, Bool.false_eq_true, false_iff, true_iff]; omega) | (simp_all; done) | (simp_all; omega)) | (rw [fits_err (by omega) (by omega)]; first | (simp only [decide_eq_true_eq, Bool.false_eq_true, false_iff, true_iff]; omega) | (simp_all; done) | (simp_all; omega)) | (rw [fits_bal (by omega) (by omega) (by omega)]; first | (simp only [decide_eq_true_eq, Bool.false_eq_true, false_iff, true_iff]; omega) | (simp_all; done) | (simp_all; omega)) | (rw [fits_bare (by omega) (by omega) (by omega) (by omega)]; first | (simp only [decide_eq_true_eq, Bool.false_eq_true, false_iff, true_iff]; omega) | (simp_all; done) | (simp_all; omega)) | (rw [fits_rows (by omega) (by omega) (by omega)]; simp; omega)), K0⟩
    ·rw [h99]
     have p101 : (decide (r.why ∈ (mayL o.kind))) = false := h99
     have hmem := of_decide_eq_false h99
     refine Dr.takes (fuel' := 0) (is' := [9, 8, 7, 6, 5, 2, 4, 3, 1, 0]) [7, 8, 9] [(2, (ptr b1)), (3, (ptr b7)), (4, (Value.bool false)), (5, (Value.bool false))] (by kernel_rfl) rfl (by kernel_rfl) ?_
     refine Dr.done (by kernel_rfl) ?_
     refine q_ret (by kernel_rfl) ?_
     refine ⟨(Value.bool false), retv_tmp rfl rfl, ?_⟩
     exact ⟨_, rfl, (by first | (rw [fits_wrong (by omega)]; first | (simp only [decide_eq_true_eq, Bool.false_eq_true, false_iff, true_iff]; omega) | (simp_all; done) | (simp_all; omega)) | (rw [fits_err (by omega) (by omega)]; first | (simp only [decide_eq_true_eq, Bool.false_eq_true, false_iff, true_iff]; omega) | (simp_all; done) | (simp_all; omega)) | (rw [fits_bal (by omega) (by omega) (by omega)]; first | (simp only [decide_eq_true_eq, Bool.false_eq_true, false_iff, true_iff]; omega) | (simp_all; done) | (simp_all; omega)) | (rw [fits_bare (by omega) (by omega) (by omega) (by omega)]; first | (simp only [decide_eq_true_eq, Bool.false_eq_true, false_iff, true_iff]; omega) | (simp_all; done) | (simp_all; omega)) | (rw [fits_rows (by omega) (by omega) (by omega)]; simp; omega)), K0⟩
   ·rw [h87]
    have p102 : r.why = 0 := of_bne_f h87
    refine qs ?_
    refine qg ?_
    refine og 1 [(2, (ptr b1)), (3, (ptr b7)), (4, (Value.bool false)), (5, (Value.bool false)), (43, (ptr b1))] 1 ?_
    refine Ops.go (v := (i64 o.kind)) (by kernel_rfl) (Runs.load (t := 3) (a := ⟨b1, 0, none⟩) (by kernel_rfl) (H4.loads (by kernel_rfl))) (d := (some 44)) (by kernel_rfl) rfl ?_
    refine og 2 [(2, (ptr b1)), (3, (ptr b7)), (4, (Value.bool false)), (5, (Value.bool false)), (42, (Value.bool (o.kind == 5)))] 4 ?_
    refine od ?_
    refine q_cond (o := .tmp 42) (b := (o.kind == 5)) (by kernel_rfl) rfl (fun h103 => ?_) (fun h103 => ?_)
    ·rw [h103]
     have p104 : o.kind = 5 := of_beq_t h103
     refine qs ?_
     refine qg ?_
     refine og 1 [(2, (ptr b1)), (3, (ptr b7)), (4, (Value.bool false)), (5, (Value.bool false)), (46, (Value.pointer (some ⟨b7, 1, none⟩)))] 1 ?_
     refine Ops.go (v := (i64 r.amount)) (by kernel_rfl) (Runs.load (t := 2) (a := ⟨b7, 1, none⟩) (by kernel_rfl) (H10.loads (by kernel_rfl))) (d := (some 47)) (by kernel_rfl) rfl ?_
     refine og 2 [(2, (ptr b1)), (3, (ptr b7)), (4, (Value.bool false)), (5, (Value.bool false)), (49, (Value.bool (decide (r.amount ≥ 0))))] 4 ?_
     refine Ops.split (decide (r.amount ≥ 0)) (fun h105 => ?_) (fun h105 => ?_)
     ·rw [h105]
      have p106 : r.amount ≥ 0 := of_decide_eq_true h105
      refine og 1 [(2, (ptr b1)), (3, (ptr b7)), (4, (Value.bool false)), (5, (Value.bool false)), (49, (Value.bool true)), (50, (Value.pointer (some ⟨b7, 2, none⟩)))] 5 ?_
      refine Ops.go (v := (Value.slice A r.rows.length c)) (by kernel_rfl) (Runs.load (t := 28) (a := ⟨b7, 2, none⟩) (by kernel_rfl) (H10.loads (by kernel_rfl))) (d := (some 51)) (by kernel_rfl) rfl ?_
      refine og 4 [(2, (ptr b1)), (3, (ptr b7)), (4, (Value.bool (((r.rows.length : Nat) : Int) == 0))), (5, (Value.bool false))] 10 ?_
      refine od ?_
      refine q_ret (by kernel_rfl) ?_
      refine ⟨(Value.bool (((r.rows.length : Nat) : Int) == 0)), retv_tmp rfl rfl, ?_⟩
      exact ⟨_, rfl, (by first | (rw [fits_wrong (by omega)]; first | (simp only [decide_eq_true_eq, Bool.false_eq_true, false_iff, true_iff]; omega) | (simp_all; done) | (simp_all; omega)) | (rw [fits_err (by omega) (by omega)]; first | (simp only [decide_eq_true_eq, Bool.false_eq_true, false_iff, true_iff]; omega) | (simp_all; done) | (simp_all; omega)) | (rw [fits_bal (by omega) (by omega) (by omega)]; first | (simp only [decide_eq_true_eq, Bool.false_eq_true, false_iff, true_iff]; omega) | (simp_all; done) | (simp_all; omega)) | (rw [fits_bare (by omega) (by omega) (by omega) (by omega)]; first | (simp only [decide_eq_true_eq, Bool.false_eq_true, false_iff, true_iff]; omega) | (simp_all; done) | (simp_all; omega)) | (rw [fits_rows (by omega) (by omega) (by omega)]; simp; omega)), K0⟩
     ·rw [h105]
      have p107 : ¬ (r.amount ≥ 0) := of_decide_eq_false h105
      refine og 6 [(2, (ptr b1)), (3, (ptr b7)), (4, (Value.bool false)), (5, (Value.bool false))] 10 ?_
      refine od ?_
      refine q_ret (by kernel_rfl) ?_
      refine ⟨(Value.bool false), retv_tmp rfl rfl, ?_⟩
      exact ⟨_, rfl, (by first | (rw [fits_wrong (by omega)]; first | (simp only [decide_eq_true_eq, Bool.false_eq_true, false_iff, true_iff]; omega) | (simp_all; done) | (simp_all; omega)) | (rw [fits_err (by omega) (by omega)]; first | (simp only [decide_eq_true_eq, Bool.false_eq_true, false_iff, true_iff]; omega) | (simp_all; done) | (simp_all; omega)) | (rw [fits_bal (by omega) (by omega) (by omega)]; first | (simp only [decide_eq_true_eq, Bool.false_eq_true, false_iff, true_iff]; omega) | (simp_all; done) | (simp_all; omega)) | (rw [fits_bare (by omega) (by omega) (by omega) (by omega)]; first | (simp only [decide_eq_true_eq, Bool.false_eq_true, false_iff, true_iff]; omega) | (simp_all; done) | (simp_all; omega)) | (rw [fits_rows (by omega) (by omega) (by omega)]; simp; omega)), K0⟩
    ·rw [h103]
     have p108 : ¬ (o.kind = 5) := of_beq_f h103
     refine qs ?_
     refine qg ?_
     refine og 1 [(3, (ptr b7)), (4, (Value.bool false)), (5, (Value.bool false)), (56, (ptr b1))] 1 ?_
     refine Ops.go (v := (i64 o.kind)) (by kernel_rfl) (Runs.load (t := 3) (a := ⟨b1, 0, none⟩) (by kernel_rfl) (H4.loads (by kernel_rfl))) (d := (some 57)) (by kernel_rfl) rfl ?_
     refine og 2 [(3, (ptr b7)), (4, (Value.bool false)), (5, (Value.bool false)), (55, (Value.bool (o.kind != 6)))] 4 ?_
     refine od ?_
     refine q_cond (o := .tmp 55) (b := (o.kind != 6)) (by kernel_rfl) rfl (fun h109 => ?_) (fun h109 => ?_)
     ·rw [h109]
      have p110 : ¬ (o.kind = 6) := of_bne_t h109
      refine qs ?_
      refine qg ?_
      refine og 2 [(3, (ptr b7)), (4, (Value.bool false))] 2 ?_
      refine od ?_
      refine q_ret (by kernel_rfl) ?_
      refine ⟨(Value.bool false), retv_tmp rfl rfl, ?_⟩
      exact ⟨_, rfl, (by first | (rw [fits_wrong (by omega)]; first | (simp only [decide_eq_true_eq, Bool.false_eq_true, false_iff, true_iff]; omega) | (simp_all; done) | (simp_all; omega)) | (rw [fits_err (by omega) (by omega)]; first | (simp only [decide_eq_true_eq, Bool.false_eq_true, false_iff, true_iff]; omega) | (simp_all; done) | (simp_all; omega)) | (rw [fits_bal (by omega) (by omega) (by omega)]; first | (simp only [decide_eq_true_eq, Bool.false_eq_true, false_iff, true_iff]; omega) | (simp_all; done) | (simp_all; omega)) | (rw [fits_bare (by omega) (by omega) (by omega) (by omega)]; first | (simp only [decide_eq_true_eq, Bool.false_eq_true, false_iff, true_iff]; omega) | (simp_all; done) | (simp_all; omega)) | (rw [fits_rows (by omega) (by omega) (by omega)]; simp; omega)), K0⟩
     ·rw [h109]
      have p111 : o.kind = 6 := of_bne_f h109
      refine q_skip (by kernel_rfl) ?_
      refine qs ?_
      refine qs ?_
      refine qg ?_
      refine og 1 [(3, (ptr b7)), (4, (Value.bool false)), (60, (Value.pointer (some ⟨b7, 2, none⟩)))] 1 ?_
      refine Ops.go (v := (Value.slice A r.rows.length c)) (by kernel_rfl) (Runs.load (t := 28) (a := ⟨b7, 2, none⟩) (by kernel_rfl) (H10.loads (by kernel_rfl))) (d := (some 61)) (by kernel_rfl) rfl ?_
      refine og 2 [(3, (ptr b7)), (4, (Value.bool false)), (61, (Value.slice A r.rows.length c)), (62, (i64 ((r.rows.length : Nat) : Int))), (63, (i64 0))] 4 ?_
      refine od ?_
      refine q_block (id := 1) (by kernel_rfl) ?_
      refine q_keep (R := [(3, (ptr b7)), (61, (Value.slice A r.rows.length c)), (62, (i64 ((r.rows.length : Nat) : Int))), (63, (i64 0))]) (by kernel_rfl) ?_
      refine q_loop (fun (i : Nat) L (wx : World) => L = [(3, (ptr b7)), (61, (Value.slice A r.rows.length c)), (62, (i64 ((r.rows.length : Nat) : Int))), (63, (i64 ((i : Nat) : Int)))] ∧ i ≤ r.rows.length ∧ (∀ j, j < i → AdjP r.rows j) ∧ Keeps none_ w wx ∧ Has wx b1 (rowL [(i64 o.kind), (Value.string (str o.frm)), (Value.string (str o.to)), (i64 o.amount), (Value.string (str o.key)), (i64 o.slot), (i64 o.shard)] 24) ∧ Has wx b7 (rowL [(i64 r.why), (i64 r.amount), (Value.slice A r.rows.length c)] 30)) (fun (i : Nat) => r.rows.length - i) 0 (by kernel_rfl) ⟨rfl, Nat.zero_le _, (fun j hj => absurd hj (Nat.not_lt_zero _)), K0, H4, H10⟩ ?_
      clear H4 H10 K0
      rintro i _ w112 ⟨rfl, hi, hAdj, K113, H114, H115⟩
      refine qs ?_
      refine qg ?_
      refine og 1 [(3, (ptr b7)), (61, (Value.slice A r.rows.length c)), (62, (i64 ((r.rows.length : Nat) : Int))), (63, (i64 ((i : Nat) : Int))), (64, (Value.bool (decide (((i : Nat) : Int) < ((r.rows.length : Nat) : Int)))))] 1 ?_
      refine od ?_
      refine qs ?_
      refine q_cond (o := .tmp 64) (b := (decide (((i : Nat) : Int) < ((r.rows.length : Nat) : Int)))) (by kernel_rfl) rfl (fun h116 => ?_) (fun h116 => ?_)
      ·rw [h116]
       have p117 : ((i : Nat) : Int) < ((r.rows.length : Nat) : Int) := of_decide_eq_true h116
       obtain ⟨x, hx⟩ : ∃ y, r.rows[i]? = some y := ⟨_, List.getElem?_eq_getElem (by omega)⟩
       obtain ⟨y, hy⟩ : ∃ y, r.rows[i - 1]? = some y := ⟨_, List.getElem?_eq_getElem (by omega)⟩
       have hy2 : r.rows[((((i : Nat) : Int) - 1).toNat)]? = some y := by rw [show ((((i : Nat) : Int) - 1).toNat) = i - 1 from by omega]; exact hy
       obtain ⟨rb118, ro119, hA120⟩ := Rd.addr (Rd.keep0 (by decide) hR K113) (by omega)
       refine q_skip (by kernel_rfl) ?_
       refine qs ?_
       refine q_block (id := 2) (by kernel_rfl) ?_
       refine qs ?_
       refine qg ?_
       refine og 1 [(3, (ptr b7)), (61, (Value.slice A r.rows.length c)), (62, (i64 ((r.rows.length : Nat) : Int))), (63, (i64 ((i : Nat) : Int))), (64, (Value.bool true)), (65, (i64 ((i : Nat) : Int)))] 1 ?_
       refine Ops.go (by kernel_rfl) (Runs.ixSliceE (k := IntKind.i64) (t := 28) (len := r.rows.length) (cap := c) (s := 2) (off' := ro119 + i * 2) (i := ((i : Nat) : Int)) hA120 (by kernel_rfl) (by kernel_rfl) (by omega) (by omega) (by omega)) (d := (some 66)) (by kernel_rfl) rfl ?_
       refine Ops.go (v := (agg [(Value.string (str x.name)), (i64 x.amount)])) (by kernel_rfl) (Runs.load (t := 47) (a := ⟨rb118, ro119 + i * 2, none⟩) (by kernel_rfl) (RdT.ld (f := RowM.cells) (x := x) RowM.two (Rd.keep0 (by decide) hR K113) (by kernel_rfl) (by kernel_rfl) hA120 hx)) (d := (some 67)) (by kernel_rfl) rfl ?_
       refine Ops.new (o := rowL [(Value.string ByteArray.empty), (i64 0)] 47) (V := fun b => (ptr b)) (by kernel_rfl) (d := (some 8)) (by kernel_rfl) (fun b => rfl) (fun b121 w122 hb123 H124 K125 hs126 => ?_)
       have lb121b1 : b1 < b121 := by have := H114.lt; omega
       have lb121b7 : b7 < b121 := by have := H115.lt; omega
       have nb121 : w.heap.size ≤ b121 := by have := K113.size; omega
       replace K113 := K113.trans K125 (U := none_) (fun i h1 h2 => h2) (fun i h1 h2 => by exact h2)
       replace H114 := H114.keep K125 (fun h => h)
       replace H115 := H115.keep K125 (fun h => h)
       clear K125 hs126
       refine og 1 [(3, (ptr b7)), (7, (i64 ((i : Nat) : Int))), (8, (ptr b121)), (61, (Value.slice A r.rows.length c)), (62, (i64 ((r.rows.length : Nat) : Int))), (63, (i64 ((i : Nat) : Int))), (64, (Value.bool true)), (67, (agg [(Value.string (str x.name)), (i64 x.amount)]))] 5 ?_
       refine Ops.put (t := 47) (b := b121) (off := 0) (v := (agg [(Value.string (str x.name)), (i64 x.amount)])) (ys := [(Value.string (str x.name)), (i64 x.amount)]) (by kernel_rfl) (by kernel_rfl) H124 (by kernel_rfl) (d := none) (by kernel_rfl) rfl (fun w127 H128 K129 => ?_)
       clear H124
       replace K113 := K113.trans K129 (U := none_) (fun i h1 h2 => h2) (fun i h1 h2 => by have h2 : i = b121 := h2; exfalso; omega)
       replace H114 := H114.keep K129 (by intro h; change b1 = b121 at h; omega)
       replace H115 := H115.keep K129 (by intro h; change b7 = b121 at h; omega)
       clear K129
       refine od ?_
       refine qs ?_
       refine q_draw (fun wz => Keeps none_ w127 wz) 19 (by kernel_rfl) (by kernel_rfl) (by kernel_rfl) (fun w130 K131 _ _ => ⟨K131, ?_⟩)
       replace K113 := K113.trans K131 (U := none_) (fun i h1 h2 => h2) (fun i h1 h2 => by exact h2)
       replace H114 := H114.keep K131 (fun h => h)
       replace H115 := H115.keep K131 (fun h => h)
       replace H128 := H128.keep K131 (fun h => h)
       refine Dr.strong (S' := (fun wz => Keeps none_ w130 wz)) (Keeps.refl w130) (fun wz hx => K131.trans hx (fun i _ h => h) (fun _ _ h => h)) ?_
       clear K131
       refine Dr.takes (fuel' := 18) (is' := [0]) [0] [(3, (ptr b7)), (7, (i64 ((i : Nat) : Int))), (8, (ptr b121)), (61, (Value.slice A r.rows.length c)), (62, (i64 ((r.rows.length : Nat) : Int))), (63, (i64 ((i : Nat) : Int))), (64, (Value.bool true)), (68, (Value.pointer (some ⟨b121, 1, none⟩)))] (by kernel_rfl) rfl (by kernel_rfl) ?_
       refine Dr.take (i := 1) (v := (i64 x.amount)) (by kernel_rfl) (by kernel_rfl) (fun wz hS => Runs.load (t := 2) (a := ⟨b121, 1, none⟩) (by kernel_rfl) ((H128.keep hS (fun h => h)).loads (by kernel_rfl))) (d := (some 69)) (by kernel_rfl) rfl ?_
       refine Dr.takes (fuel' := 15) (is' := [3, 2, 1, 0]) [2, 3] [(3, (ptr b7)), (7, (i64 ((i : Nat) : Int))), (8, (ptr b121)), (61, (Value.slice A r.rows.length c)), (62, (i64 ((r.rows.length : Nat) : Int))), (63, (i64 ((i : Nat) : Int))), (64, (Value.bool true)), (71, (Value.bool (decide (x.amount < 0))))] (by kernel_rfl) rfl (by kernel_rfl) ?_
       refine Dr.split (decide (x.amount < 0)) (fun h132 => ?_) (fun h132 => ?_)
       ·rw [h132]
        have p133 : x.amount < 0 := of_decide_eq_true h132
        refine Dr.takes (fuel' := 0) (is' := [18, 17, 16, 15, 14, 13, 12, 11, 10, 9, 8, 7, 6, 5, 4, 3, 2, 1, 0]) [4, 5, 6, 7, 8, 9, 10, 11, 12, 13, 14, 15, 16, 17, 18] [(3, (ptr b7)), (7, (i64 ((i : Nat) : Int))), (8, (ptr b121)), (61, (Value.slice A r.rows.length c)), (62, (i64 ((r.rows.length : Nat) : Int))), (63, (i64 ((i : Nat) : Int))), (64, (Value.bool true)), (86, (Value.bool true))] (by kernel_rfl) rfl (by kernel_rfl) ?_
        refine Dr.done (by kernel_rfl) ?_
        refine q_then (o := .tmp 86) (by kernel_rfl) rfl ?_
        refine qs ?_
        refine qg ?_
        refine og 1 [(3, (ptr b7)), (4, (Value.bool false)), (7, (i64 ((i : Nat) : Int))), (8, (ptr b121)), (61, (Value.slice A r.rows.length c)), (62, (i64 ((r.rows.length : Nat) : Int))), (63, (i64 ((i : Nat) : Int))), (64, (Value.bool true)), (86, (Value.bool true))] 1 ?_
        refine od ?_
        refine q_ret (by kernel_rfl) ?_
        refine ⟨(Value.bool false), retv_tmp rfl rfl, ?_⟩
        exact ⟨_, rfl, ⟨fun h => (by cases h), fun h => by rw [fits_rows (by omega) (by omega) (by omega)] at h; have h2 := asc_at h.2 hx hy; exfalso; first | omega | exact hlt (h2.2 (by omega))⟩, K113⟩
       ·rw [h132]
        have p134 : ¬ (x.amount < 0) := of_decide_eq_false h132
        refine Dr.takes (fuel' := 12) (is' := [6, 5, 4, 3, 2, 1, 0]) [4, 5, 6] [(3, (ptr b7)), (7, (i64 ((i : Nat) : Int))), (8, (ptr b121)), (61, (Value.slice A r.rows.length c)), (62, (i64 ((r.rows.length : Nat) : Int))), (63, (i64 ((i : Nat) : Int))), (64, (Value.bool true)), (71, (Value.bool false)), (74, (Value.bool (decide (((i : Nat) : Int) > 0))))] (by kernel_rfl) rfl (by kernel_rfl) ?_
        refine Dr.split (decide (((i : Nat) : Int) > 0)) (fun h135 => ?_) (fun h135 => ?_)
        ·rw [h135]
         have p136 : ((i : Nat) : Int) > 0 := of_decide_eq_true h135
         refine Dr.takes (fuel' := 11) (is' := [7, 6, 5, 4, 3, 2, 1, 0]) [7] [(3, (ptr b7)), (7, (i64 ((i : Nat) : Int))), (8, (ptr b121)), (61, (Value.slice A r.rows.length c)), (62, (i64 ((r.rows.length : Nat) : Int))), (63, (i64 ((i : Nat) : Int))), (64, (Value.bool true)), (71, (Value.bool false)), (74, (Value.bool true)), (75, (Value.pointer (some ⟨b7, 2, none⟩)))] (by kernel_rfl) rfl (by kernel_rfl) ?_
         refine Dr.take (i := 8) (v := (Value.slice A r.rows.length c)) (by kernel_rfl) (by kernel_rfl) (fun wz hS => Runs.load (t := 28) (a := ⟨b7, 2, none⟩) (by kernel_rfl) ((H115.keep hS (fun h => h)).loads (by kernel_rfl))) (d := (some 76)) (by kernel_rfl) rfl ?_
         refine Dr.takes (fuel' := 8) (is' := [10, 9, 8, 7, 6, 5, 4, 3, 2, 1, 0]) [9, 10] [(3, (ptr b7)), (7, (i64 ((i : Nat) : Int))), (8, (ptr b121)), (61, (Value.slice A r.rows.length c)), (62, (i64 ((r.rows.length : Nat) : Int))), (63, (i64 ((i : Nat) : Int))), (64, (Value.bool true)), (71, (Value.bool false)), (74, (Value.bool true)), (76, (Value.slice A r.rows.length c)), (78, (i64 (IntKind.i64.wrap (((i : Nat) : Int) - 1))))] (by kernel_rfl) rfl (by kernel_rfl) ?_
         have e137 : IntKind.i64.wrap (((i : Nat) : Int) - 1) = ((i : Nat) : Int) - 1 := wrap_i64 (by omega) (by omega)
         rw [e137]
         refine Dr.take (i := 11) (v := (Value.pointer (some ⟨rb118, ro119 + ((((i : Nat) : Int) - 1).toNat) * 2, none⟩))) (by kernel_rfl) (by kernel_rfl) (fun wz hS => Runs.ixSliceE (k := IntKind.i64) (t := 28) (len := r.rows.length) (cap := c) (s := 2) (off' := ro119 + ((((i : Nat) : Int) - 1).toNat) * 2) (i := ((i : Nat) : Int) - 1) hA120 (by kernel_rfl) (by kernel_rfl) (by omega) (by omega) (by omega)) (d := (some 79)) (by kernel_rfl) rfl ?_
         refine Dr.takes (fuel' := 6) (is' := [12, 11, 10, 9, 8, 7, 6, 5, 4, 3, 2, 1, 0]) [12] [(3, (ptr b7)), (7, (i64 ((i : Nat) : Int))), (8, (ptr b121)), (61, (Value.slice A r.rows.length c)), (62, (i64 ((r.rows.length : Nat) : Int))), (63, (i64 ((i : Nat) : Int))), (64, (Value.bool true)), (71, (Value.bool false)), (74, (Value.bool true)), (80, (Value.pointer (some ⟨rb118, ro119 + ((((i : Nat) : Int) - 1).toNat) * 2, none⟩)))] (by kernel_rfl) rfl (by kernel_rfl) ?_
         refine Dr.take (i := 13) (v := (Value.string (str y.name))) (by kernel_rfl) (by kernel_rfl) (fun wz hS => Runs.load (t := 9) (a := ⟨rb118, ro119 + ((((i : Nat) : Int) - 1).toNat) * 2, none⟩) (by kernel_rfl) (RdT.ldf (f := RowM.cells) (x := y) (o := 0) RowM.two (Rd.keep0 (by decide) hR (K113.trans hS (fun _ _ h => h) (fun _ _ h => h))) (by kernel_rfl) hA120 hy2 rfl)) (d := (some 81)) (by kernel_rfl) rfl ?_
         refine Dr.takes (fuel' := 4) (is' := [14, 13, 12, 11, 10, 9, 8, 7, 6, 5, 4, 3, 2, 1, 0]) [14] [(3, (ptr b7)), (7, (i64 ((i : Nat) : Int))), (8, (ptr b121)), (61, (Value.slice A r.rows.length c)), (62, (i64 ((r.rows.length : Nat) : Int))), (63, (i64 ((i : Nat) : Int))), (64, (Value.bool true)), (71, (Value.bool false)), (74, (Value.bool true)), (81, (Value.string (str y.name))), (82, (ptr b121))] (by kernel_rfl) rfl (by kernel_rfl) ?_
         refine Dr.take (i := 15) (v := (Value.string (str x.name))) (by kernel_rfl) (by kernel_rfl) (fun wz hS => Runs.load (t := 9) (a := ⟨b121, 0, none⟩) (by kernel_rfl) ((H128.keep hS (fun h => h)).loads (by kernel_rfl))) (d := (some 83)) (by kernel_rfl) rfl ?_
         refine Dr.take (i := 16) (v := (Value.bool (!(decide (y.name < x.name))))) (by kernel_rfl) (by kernel_rfl) (fun wz hS => Runs.strgeq (t := 9) (by kernel_rfl)) (d := (some 84)) (by kernel_rfl) rfl ?_
         refine Dr.takes (fuel' := 0) (is' := [18, 17, 16, 15, 14, 13, 12, 11, 10, 9, 8, 7, 6, 5, 4, 3, 2, 1, 0]) [17, 18] [(3, (ptr b7)), (7, (i64 ((i : Nat) : Int))), (8, (ptr b121)), (61, (Value.slice A r.rows.length c)), (62, (i64 ((r.rows.length : Nat) : Int))), (63, (i64 ((i : Nat) : Int))), (64, (Value.bool true)), (86, (Value.bool (!(decide (y.name < x.name)))))] (by kernel_rfl) rfl (by kernel_rfl) ?_
         refine Dr.done (by kernel_rfl) ?_
         refine q_cond (o := .tmp 86) (b := (!(decide (y.name < x.name)))) (by kernel_rfl) rfl (fun h138 => ?_) (fun h138 => ?_)
         ·rw [h138]
          have p139 : (decide (y.name < x.name)) = false := (bnot_true h138)
          have hlt := of_decide_eq_false (bnot_true h138)
          refine qs ?_
          refine qg ?_
          refine og 1 [(3, (ptr b7)), (4, (Value.bool false)), (7, (i64 ((i : Nat) : Int))), (8, (ptr b121)), (61, (Value.slice A r.rows.length c)), (62, (i64 ((r.rows.length : Nat) : Int))), (63, (i64 ((i : Nat) : Int))), (64, (Value.bool true)), (86, (Value.bool true))] 1 ?_
          refine od ?_
          refine q_ret (by kernel_rfl) ?_
          refine ⟨(Value.bool false), retv_tmp rfl rfl, ?_⟩
          exact ⟨_, rfl, ⟨fun h => (by cases h), fun h => by rw [fits_rows (by omega) (by omega) (by omega)] at h; have h2 := asc_at h.2 hx hy; exfalso; first | omega | exact hlt (h2.2 (by omega))⟩, K113⟩
         ·rw [h138]
          have p140 : (decide (y.name < x.name)) = true := (bnot_false h138)
          have hlt := of_decide_eq_true (bnot_false h138)
          refine q_skip (by kernel_rfl) ?_
          refine qg ?_
          refine og 1 [(3, (ptr b7)), (7, (i64 ((i : Nat) : Int))), (8, (ptr b121)), (61, (Value.slice A r.rows.length c)), (62, (i64 ((r.rows.length : Nat) : Int))), (63, (i64 ((i : Nat) : Int))), (64, (Value.bool true)), (86, (Value.bool false)), (87, (i64 (IntKind.i64.wrap (((i : Nat) : Int) + 1))))] 1 ?_
          have e141 : IntKind.i64.wrap (((i : Nat) : Int) + 1) = ((i + 1 : Nat) : Int) := by rw [wrap_i64 (by omega) (by omega)]; omega
          rw [e141]
          clear e141
          refine og 1 [(3, (ptr b7)), (7, (i64 ((i : Nat) : Int))), (8, (ptr b121)), (61, (Value.slice A r.rows.length c)), (62, (i64 ((r.rows.length : Nat) : Int))), (63, (i64 ((i + 1 : Nat) : Int))), (64, (Value.bool true)), (86, (Value.bool false))] 2 ?_
          refine Ops.keep (R := [(3, (ptr b7)), (61, (Value.slice A r.rows.length c)), (62, (i64 ((r.rows.length : Nat) : Int))), (63, (i64 ((i + 1 : Nat) : Int)))]) (by kernel_rfl) ?_
          refine od ?_
          exact ⟨i + 1, ⟨rfl, (by omega), (adj_step hx hy hAdj (by omega) (fun h0 => by first | exact hlt | (exfalso; omega))), K113, H114, H115⟩, (show r.rows.length - (i + 1) < r.rows.length - i from by omega)⟩
        ·rw [h135]
         have p142 : ¬ (((i : Nat) : Int) > 0) := of_decide_eq_false h135
         refine Dr.takes (fuel' := 0) (is' := [18, 17, 16, 15, 14, 13, 12, 11, 10, 9, 8, 7, 6, 5, 4, 3, 2, 1, 0]) [7, 8, 9, 10, 11, 12, 13, 14, 15, 16, 17, 18] [(3, (ptr b7)), (7, (i64 ((i : Nat) : Int))), (8, (ptr b121)), (61, (Value.slice A r.rows.length c)), (62, (i64 ((r.rows.length : Nat) : Int))), (63, (i64 ((i : Nat) : Int))), (64, (Value.bool true)), (86, (Value.bool false))] (by kernel_rfl) rfl (by kernel_rfl) ?_
         refine Dr.done (by kernel_rfl) ?_
         refine q_else (o := .tmp 86) (by kernel_rfl) rfl ?_
         refine q_skip (by kernel_rfl) ?_
         refine qg ?_
         refine og 1 [(3, (ptr b7)), (7, (i64 ((i : Nat) : Int))), (8, (ptr b121)), (61, (Value.slice A r.rows.length c)), (62, (i64 ((r.rows.length : Nat) : Int))), (63, (i64 ((i : Nat) : Int))), (64, (Value.bool true)), (86, (Value.bool false)), (87, (i64 (IntKind.i64.wrap (((i : Nat) : Int) + 1))))] 1 ?_
         have e143 : IntKind.i64.wrap (((i : Nat) : Int) + 1) = ((i + 1 : Nat) : Int) := by rw [wrap_i64 (by omega) (by omega)]; omega
         rw [e143]
         clear e143
         refine og 1 [(3, (ptr b7)), (7, (i64 ((i : Nat) : Int))), (8, (ptr b121)), (61, (Value.slice A r.rows.length c)), (62, (i64 ((r.rows.length : Nat) : Int))), (63, (i64 ((i + 1 : Nat) : Int))), (64, (Value.bool true)), (86, (Value.bool false))] 2 ?_
         refine Ops.keep (R := [(3, (ptr b7)), (61, (Value.slice A r.rows.length c)), (62, (i64 ((r.rows.length : Nat) : Int))), (63, (i64 ((i + 1 : Nat) : Int)))]) (by kernel_rfl) ?_
         refine od ?_
         exact ⟨i + 1, ⟨rfl, (by omega), (adj_step hx hy hAdj (by omega) (fun h0 => by first | exact hlt | (exfalso; omega))), K113, H114, H115⟩, (show r.rows.length - (i + 1) < r.rows.length - i from by omega)⟩
      ·rw [h116]
       have p144 : ¬ (((i : Nat) : Int) < ((r.rows.length : Nat) : Int)) := of_decide_eq_false h116
       refine q_exit (id := 1) (by kernel_rfl) ?_
       refine qs ?_
       refine qg ?_
       refine og 1 [(88, (Value.pointer (some ⟨b7, 1, none⟩)))] 1 ?_
       refine Ops.go (v := (i64 r.amount)) (by kernel_rfl) (Runs.load (t := 2) (a := ⟨b7, 1, none⟩) (by kernel_rfl) (H115.loads (by kernel_rfl))) (d := (some 89)) (by kernel_rfl) rfl ?_
       refine og 2 [(4, (Value.bool (r.amount == 0)))] 4 ?_
       refine od ?_
       refine q_ret (by kernel_rfl) ?_
       refine ⟨(Value.bool (r.amount == 0)), retv_tmp rfl rfl, ?_⟩
       exact ⟨_, rfl, (by rw [fits_rows (by omega) (by omega) (by omega)]; have hA : AscP r.rows := fun j hj => hAdj j (by omega); first | (simp only [decide_eq_true_eq, hA, and_true]; done) | (simp [hA]; omega) | (simp [hA])), K113⟩

set_option maxHeartbeats 4000000 in
theorem RFits_calls (w : World) (o : Opm) (r : ReplyM) (A : Option Addr) (c : Nat) (hR : RdR w (.slice A r.rows.length c) r.rows) : Calls Tryz.prog 21 ⟨[(agg [(i64 o.kind), (Value.string (str o.frm)), (Value.string (str o.to)), (i64 o.amount), (Value.string (str o.key)), (i64 o.slot), (i64 o.shard)]), (agg [(i64 r.why), (i64 r.amount), (Value.slice A r.rows.length c)])]⟩ w (fun e w' => ∃ t, e = .returned (.bool t) ∧ (t = true ↔ FitsP o r) ∧ Keeps none_ w w') := by
 have hcap := (RdT.len RowM.two (by decide) hR).2
 unfold maxLen at hcap
 have K0 : Keeps none_ w w := Keeps.refl w
 refine q_calls Tryz.func21 (by kernel_rfl) (by kernel_rfl) ?_
 refine qs ?_
 refine qg ?_
 refine Ops.new (o := rowL [(i64 o.kind), (Value.string (str o.frm)), (Value.string (str o.to)), (i64 o.amount), (Value.string (str o.key)), (i64 o.slot), (i64 o.shard)] 24) (V := fun b => (ptr b)) (by kernel_rfl) (d := (some 2)) (by kernel_rfl) (fun b => rfl) (fun b1 w2 hb3 H4 K5 hs6 => ?_)
 have nb1 : w.heap.size ≤ b1 := by have := K0.size; omega
 replace K0 := K0.t0 K5
 clear K5 hs6
 refine Ops.new (o := rowL [(i64 r.why), (i64 r.amount), (Value.slice A r.rows.length c)] 30) (V := fun b => (ptr b)) (by kernel_rfl) (d := (some 3)) (by kernel_rfl) (fun b => rfl) (fun b7 w8 hb9 H10 K11 hs12 => ?_)
 have lb7b1 : b1 < b7 := by have := H4.lt; omega
 have nb7 : w.heap.size ≤ b7 := by have := K0.size; omega
 replace K0 := K0.t0 K11
 replace H4 := H4.keep K11 (fun h => h)
 clear K11 hs12
 refine og 1 [(2, (ptr b1)), (3, (ptr b7)), (4, (Value.bool false))] 3 ?_
 refine od ?_
 refine qs ?_
 refine qg ?_
 refine Ops.go (v := (agg [(i64 o.kind), (Value.string (str o.frm)), (Value.string (str o.to)), (i64 o.amount), (Value.string (str o.key)), (i64 o.slot), (i64 o.shard)])) (by kernel_rfl) (Runs.load (t := 24) (a := ⟨b1, 0, none⟩) (by kernel_rfl) (H4.loads (by kernel_rfl))) (d := (some 10)) (by kernel_rfl) rfl ?_
 refine Ops.call (by kernel_rfl) (d := (some 11)) (by kernel_rfl) (RWrong_calls _ o) ?_
 rintro _ w14 ⟨rfl, K13⟩
 refine ⟨_, _, rfl, rfl, ?_⟩
 replace K0 := K0.t0 K13
 replace H4 := H4.keep K13 (fun h => h)
 replace H10 := H10.keep K13 (fun h => h)
 clear K13
 refine og 1 [(2, (ptr b1)), (3, (ptr b7)), (4, (Value.bool false)), (5, (i64 (wrongE o)))] 3 ?_
 refine od ?_
 refine qs ?_
 refine qs ?_
 refine qg ?_
 refine og 2 [(2, (ptr b1)), (3, (ptr b7)), (4, (Value.bool false)), (5, (i64 (wrongE o))), (13, (Value.bool ((wrongE o) != 0)))] 2 ?_
 refine od ?_
 refine q_cond (o := .tmp 13) (b := ((wrongE o) != 0)) (by kernel_rfl) rfl (fun h15 => ?_) (fun h15 => ?_)
 ·rw [h15]
  have p16 : ¬ (wrongE o = 0) := of_bne_t h15
  refine qs ?_
  refine qg ?_
  refine og 1 [(2, (ptr b1)), (3, (ptr b7)), (4, (Value.bool false)), (5, (i64 (wrongE o))), (14, (ptr b7))] 1 ?_
  refine Ops.go (v := (i64 r.why)) (by kernel_rfl) (Runs.load (t := 27) (a := ⟨b7, 0, none⟩) (by kernel_rfl) (H10.loads (by kernel_rfl))) (d := (some 15)) (by kernel_rfl) rfl ?_
  refine og 3 [(2, (ptr b1)), (3, (ptr b7)), (4, (Value.bool false)), (18, (Value.bool (r.why == (wrongE o))))] 5 ?_
  refine Ops.split (r.why == (wrongE o)) (fun h17 => ?_) (fun h17 => ?_)
  ·rw [h17]
   have p18 : r.why = wrongE o := of_beq_t h17
   refine og 1 [(2, (ptr b1)), (3, (ptr b7)), (4, (Value.bool false)), (18, (Value.bool true)), (19, (Value.pointer (some ⟨b7, 1, none⟩)))] 6 ?_
   refine Ops.go (v := (i64 r.amount)) (by kernel_rfl) (Runs.load (t := 2) (a := ⟨b7, 1, none⟩) (by kernel_rfl) (H10.loads (by kernel_rfl))) (d := (some 20)) (by kernel_rfl) rfl ?_
   refine og 3 [(2, (ptr b1)), (3, (ptr b7)), (4, (Value.bool false)), (23, (Value.bool (r.amount == 0)))] 10 ?_
   refine Ops.split (r.amount == 0) (fun h19 => ?_) (fun h19 => ?_)
   ·rw [h19]
    have p20 : r.amount = 0 := of_beq_t h19
    refine og 1 [(2, (ptr b1)), (3, (ptr b7)), (4, (Value.bool false)), (23, (Value.bool true)), (24, (Value.pointer (some ⟨b7, 2, none⟩)))] 11 ?_
    refine Ops.go (v := (Value.slice A r.rows.length c)) (by kernel_rfl) (Runs.load (t := 28) (a := ⟨b7, 2, none⟩) (by kernel_rfl) (H10.loads (by kernel_rfl))) (d := (some 25)) (by kernel_rfl) rfl ?_
    refine og 4 [(2, (ptr b1)), (3, (ptr b7)), (4, (Value.bool (((r.rows.length : Nat) : Int) == 0)))] 16 ?_
    refine od ?_
    refine q_ret (by kernel_rfl) ?_
    refine ⟨(Value.bool (((r.rows.length : Nat) : Int) == 0)), retv_tmp rfl rfl, ?_⟩
    exact ⟨_, rfl, (by first | (rw [fits_wrong (by omega)]; first | (simp only [decide_eq_true_eq, Bool.false_eq_true, false_iff, true_iff]; omega) | (simp_all; done) | (simp_all; omega)) | (rw [fits_err (by omega) (by omega)]; first | (simp only [decide_eq_true_eq, Bool.false_eq_true, false_iff, true_iff]; omega) | (simp_all; done) | (simp_all; omega)) | (rw [fits_bal (by omega) (by omega) (by omega)]; first | (simp only [decide_eq_true_eq, Bool.false_eq_true, false_iff, true_iff]; omega) | (simp_all; done) | (simp_all; omega)) | (rw [fits_bare (by omega) (by omega) (by omega) (by omega)]; first | (simp only [decide_eq_true_eq, Bool.false_eq_true, false_iff, true_iff]; omega) | (simp_all; done) | (simp_all; omega)) | (rw [fits_rows (by omega) (by omega) (by omega)]; simp; omega)), K0⟩
   ·rw [h19]
    have p21 : ¬ (r.amount = 0) := of_beq_f h19
    refine og 6 [(2, (ptr b1)), (3, (ptr b7)), (4, (Value.bool false))] 16 ?_
    refine od ?_
    refine q_ret (by kernel_rfl) ?_
    refine ⟨(Value.bool false), retv_tmp rfl rfl, ?_⟩
    exact ⟨_, rfl, (by first | (rw [fits_wrong (by omega)]; first | (simp only [decide_eq_true_eq, Bool.false_eq_true, false_iff, true_iff]; omega) | (simp_all; done) | (simp_all; omega)) | (rw [fits_err (by omega) (by omega)]; first | (simp only [decide_eq_true_eq, Bool.false_eq_true, false_iff, true_iff]; omega) | (simp_all; done) | (simp_all; omega)) | (rw [fits_bal (by omega) (by omega) (by omega)]; first | (simp only [decide_eq_true_eq, Bool.false_eq_true, false_iff, true_iff]; omega) | (simp_all; done) | (simp_all; omega)) | (rw [fits_bare (by omega) (by omega) (by omega) (by omega)]; first | (simp only [decide_eq_true_eq, Bool.false_eq_true, false_iff, true_iff]; omega) | (simp_all; done) | (simp_all; omega)) | (rw [fits_rows (by omega) (by omega) (by omega)]; simp; omega)), K0⟩
  ·rw [h17]
   have p22 : ¬ (r.why = wrongE o) := of_beq_f h17
   refine og 11 [(2, (ptr b1)), (3, (ptr b7)), (4, (Value.bool false))] 16 ?_
   refine od ?_
   refine q_ret (by kernel_rfl) ?_
   refine ⟨(Value.bool false), retv_tmp rfl rfl, ?_⟩
   exact ⟨_, rfl, (by first | (rw [fits_wrong (by omega)]; first | (simp only [decide_eq_true_eq, Bool.false_eq_true, false_iff, true_iff]; omega) | (simp_all; done) | (simp_all; omega)) | (rw [fits_err (by omega) (by omega)]; first | (simp only [decide_eq_true_eq, Bool.false_eq_true, false_iff, true_iff]; omega) | (simp_all; done) | (simp_all; omega)) | (rw [fits_bal (by omega) (by omega) (by omega)]; first | (simp only [decide_eq_true_eq, Bool.false_eq_true, false_iff, true_iff]; omega) | (simp_all; done) | (simp_all; omega)) | (rw [fits_bare (by omega) (by omega) (by omega) (by omega)]; first | (simp only [decide_eq_true_eq, Bool.false_eq_true, false_iff, true_iff]; omega) | (simp_all; done) | (simp_all; omega)) | (rw [fits_rows (by omega) (by omega) (by omega)]; simp; omega)), K0⟩
 ·rw [h15]
  have p23 : wrongE o = 0 := of_bne_f h15
  refine q_skip (by kernel_rfl) ?_
  refine qs ?_
  refine qg ?_
  refine og 1 [(2, (ptr b1)), (3, (ptr b7)), (4, (Value.bool false)), (29, (ptr b1))] 1 ?_
  refine Ops.go (v := (i64 o.kind)) (by kernel_rfl) (Runs.load (t := 3) (a := ⟨b1, 0, none⟩) (by kernel_rfl) (H4.loads (by kernel_rfl))) (d := (some 30)) (by kernel_rfl) rfl ?_
  refine Ops.call (by kernel_rfl) (d := (some 31)) (by kernel_rfl) (errors_calls _ o.kind) ?_
  rintro _ w27 ⟨A24, c25, rfl, K26, hR28⟩
  have hml29 := may_len o.kind
  refine ⟨_, _, rfl, rfl, ?_⟩
  replace K0 := K0.t0 K26
  replace H4 := H4.keep K26 (fun h => h)
  replace H10 := H10.keep K26 (fun h => h)
  clear K26
  refine og 1 [(2, (ptr b1)), (3, (ptr b7)), (4, (Value.bool false)), (6, (Value.slice A24 ((0 :: mayL o.kind).length) c25))] 4 ?_
  refine od ?_
  refine qs ?_
  refine qg ?_
  refine og 1 [(2, (ptr b1)), (3, (ptr b7)), (4, (Value.bool false)), (6, (Value.slice A24 ((0 :: mayL o.kind).length) c25)), (7, (Value.bool false))] 1 ?_
  refine od ?_
  refine qs ?_
  refine qs ?_
  refine qg ?_
  refine og 1 [(2, (ptr b1)), (3, (ptr b7)), (4, (Value.bool false)), (6, (Value.slice A24 ((0 :: mayL o.kind).length) c25)), (7, (Value.bool false)), (8, (i64 0))] 1 ?_
  refine od ?_
  refine q_block (id := 0) (by kernel_rfl) ?_
  refine q_keep (R := [(2, (ptr b1)), (3, (ptr b7)), (4, (Value.bool false)), (6, (Value.slice A24 ((0 :: mayL o.kind).length) c25)), (7, (Value.bool false)), (8, (i64 0))]) (by kernel_rfl) ?_
  refine q_loop (fun (gs : Nat × Bool) L (wx : World) => match gs with | (i, inb) => L = [(2, (ptr b1)), (3, (ptr b7)), (4, (Value.bool false)), (6, (Value.slice A24 ((0 :: mayL o.kind).length) c25)), (7, (Value.bool inb)), (8, (i64 ((i : Nat) : Int)))] ∧ RdT wx 1 kone (Value.slice A24 ((0 :: mayL o.kind).length) c25) (0 :: mayL o.kind) ∧ i ≤ (0 :: mayL o.kind).length ∧ (inb = true ↔ r.why ∈ (0 :: mayL o.kind).take i) ∧ Keeps none_ w wx ∧ Has wx b1 (rowL [(i64 o.kind), (Value.string (str o.frm)), (Value.string (str o.to)), (i64 o.amount), (Value.string (str o.key)), (i64 o.slot), (i64 o.shard)] 24) ∧ Has wx b7 (rowL [(i64 r.why), (i64 r.amount), (Value.slice A r.rows.length c)] 30)) (fun (gs : Nat × Bool) => match gs with | (i, inb) => (0 :: mayL o.kind).length - i) (0, false) (by kernel_rfl) ⟨rfl, hR28, Nat.zero_le _, (by simp), K0, H4, H10⟩ ?_
  clear H4 H10 hR28 K0
  rintro ⟨i, inb⟩ _ w30 ⟨rfl, hC0, hi, hin, K31, H32, H33⟩
  refine qs ?_
  refine qs ?_
  refine qg ?_
  refine og 4 [(2, (ptr b1)), (3, (ptr b7)), (4, (Value.bool false)), (6, (Value.slice A24 ((0 :: mayL o.kind).length) c25)), (7, (Value.bool inb)), (8, (i64 ((i : Nat) : Int))), (35, (Value.bool (decide (((i : Nat) : Int) < (((0 :: mayL o.kind).length : Nat) : Int)))))] 4 ?_
  refine od ?_
  refine q_cond (o := .tmp 35) (b := (decide (((i : Nat) : Int) < (((0 :: mayL o.kind).length : Nat) : Int)))) (by kernel_rfl) rfl (fun h34 => ?_) (fun h34 => ?_)
  ·rw [h34]
   have p35 : ((i : Nat) : Int) < (((0 :: mayL o.kind).length : Nat) : Int) := of_decide_eq_true h34
   obtain ⟨z, hz⟩ : ∃ y, (0 :: mayL o.kind)[i]? = some y := ⟨_, List.getElem?_eq_getElem (by omega)⟩
   obtain ⟨rb36, ro37, hA38⟩ := Rd.addr hC0 (by omega)
   refine q_skip (by kernel_rfl) ?_
   refine qs ?_
   refine q_block (id := 1) (by kernel_rfl) ?_
   refine q_draw (fun wz => Keeps none_ w30 wz) 11 (by kernel_rfl) (by kernel_rfl) (by kernel_rfl) (fun w39 K40 _ _ => ⟨K40, ?_⟩)
   replace K31 := K31.trans K40 (U := none_) (fun i h1 h2 => h2) (fun i h1 h2 => by exact h2)
   replace H32 := H32.keep K40 (fun h => h)
   replace H33 := H33.keep K40 (fun h => h)
   replace hC0 := (Rd.keep0 (by omega) hC0 K40)
   refine Dr.strong (S' := (fun wz => Keeps none_ w39 wz)) (Keeps.refl w39) (fun wz hx => K40.trans hx (fun i _ h => h) (fun _ _ h => h)) ?_
   clear K40
   refine Dr.takes (fuel' := 9) (is' := [1, 0]) [0, 1] [(2, (ptr b1)), (3, (ptr b7)), (4, (Value.bool false)), (6, (Value.slice A24 ((0 :: mayL o.kind).length) c25)), (7, (Value.bool inb)), (8, (i64 ((i : Nat) : Int))), (35, (Value.bool true)), (39, (Value.bool inb))] (by kernel_rfl) rfl (by kernel_rfl) ?_
   refine Dr.split inb (fun h41 => ?_) (fun h41 => ?_)
   ·rw [h41]
    have p42 : inb = true := h41
    refine Dr.takes (fuel' := 0) (is' := [10, 9, 8, 7, 6, 5, 4, 3, 2, 1, 0]) [2, 3, 4, 5, 6, 7, 8, 9, 10] [(2, (ptr b1)), (3, (ptr b7)), (4, (Value.bool false)), (6, (Value.slice A24 ((0 :: mayL o.kind).length) c25)), (7, (Value.bool true)), (8, (i64 ((i : Nat) : Int))), (35, (Value.bool true))] (by kernel_rfl) rfl (by kernel_rfl) ?_
    refine Dr.done (by kernel_rfl) ?_
    refine qg ?_
    refine og 2 [(2, (ptr b1)), (3, (ptr b7)), (4, (Value.bool false)), (6, (Value.slice A24 ((0 :: mayL o.kind).length) c25)), (7, (Value.bool true)), (8, (i64 ((i : Nat) : Int))), (35, (Value.bool true)), (37, (i64 (IntKind.i64.wrap (((i : Nat) : Int) + 1))))] 2 ?_
    have e43 : IntKind.i64.wrap (((i : Nat) : Int) + 1) = ((i + 1 : Nat) : Int) := by rw [wrap_i64 (by omega) (by omega)]; omega
    rw [e43]
    clear e43
    refine og 1 [(2, (ptr b1)), (3, (ptr b7)), (4, (Value.bool false)), (6, (Value.slice A24 ((0 :: mayL o.kind).length) c25)), (7, (Value.bool true)), (8, (i64 ((i + 1 : Nat) : Int))), (35, (Value.bool true))] 3 ?_
    refine Ops.keep (R := [(2, (ptr b1)), (3, (ptr b7)), (4, (Value.bool false)), (6, (Value.slice A24 ((0 :: mayL o.kind).length) c25)), (7, (Value.bool true)), (8, (i64 ((i + 1 : Nat) : Int)))]) (by kernel_rfl) ?_
    refine od ?_
    exact ⟨(i + 1, true), ⟨rfl, hC0, (by omega), (in_step hz hin (by first | (simp_all; done) | (simp_all [eq_comm]; done))), K31, H32, H33⟩, (show (0 :: mayL o.kind).length - (i + 1) < (0 :: mayL o.kind).length - i from by omega)⟩
   ·rw [h41]
    have p44 : inb = false := h41
    refine Dr.takes (fuel' := 7) (is' := [3, 2, 1, 0]) [2, 3] [(2, (ptr b1)), (3, (ptr b7)), (4, (Value.bool false)), (6, (Value.slice A24 ((0 :: mayL o.kind).length) c25)), (7, (Value.bool false)), (8, (i64 ((i : Nat) : Int))), (35, (Value.bool true)), (39, (Value.bool false)), (40, (Value.slice A24 ((0 :: mayL o.kind).length) c25)), (41, (i64 ((i : Nat) : Int)))] (by kernel_rfl) rfl (by kernel_rfl) ?_
    refine Dr.take (i := 4) (v := (Value.pointer (some ⟨rb36, ro37 + i, none⟩))) (by kernel_rfl) (by kernel_rfl) (fun wz hS => Runs.ixSliceE (k := IntKind.i64) (t := 93) (len := ((0 :: mayL o.kind).length)) (cap := c25) (s := 1) (off' := ro37 + i) (i := ((i : Nat) : Int)) hA38 (by kernel_rfl) (by kernel_rfl) (by omega) (by omega) (by omega)) (d := (some 42)) (by kernel_rfl) rfl ?_
    refine Dr.take (i := 5) (v := (i64 z)) (by kernel_rfl) (by kernel_rfl) (fun wz hS => Runs.load (t := 27) (a := ⟨rb36, ro37 + i, none⟩) (by kernel_rfl) (RdT.ld1 (f := kone) (x := z) kone1 (Rd.keep0 (by decide) hC0 hS) (by kernel_rfl) hA38 hz rfl)) (d := (some 43)) (by kernel_rfl) rfl ?_
    refine Dr.takes (fuel' := 4) (is' := [6, 5, 4, 3, 2, 1, 0]) [6] [(2, (ptr b1)), (3, (ptr b7)), (4, (Value.bool false)), (6, (Value.slice A24 ((0 :: mayL o.kind).length) c25)), (7, (Value.bool false)), (8, (i64 ((i : Nat) : Int))), (35, (Value.bool true)), (39, (Value.bool false)), (43, (i64 z)), (44, (ptr b7))] (by kernel_rfl) rfl (by kernel_rfl) ?_
    refine Dr.take (i := 7) (v := (i64 r.why)) (by kernel_rfl) (by kernel_rfl) (fun wz hS => Runs.load (t := 27) (a := ⟨b7, 0, none⟩) (by kernel_rfl) ((H33.keep hS (fun h => h)).loads (by kernel_rfl))) (d := (some 45)) (by kernel_rfl) rfl ?_
    refine Dr.takes (fuel' := 0) (is' := [10, 9, 8, 7, 6, 5, 4, 3, 2, 1, 0]) [8, 9, 10] [(2, (ptr b1)), (3, (ptr b7)), (4, (Value.bool false)), (6, (Value.slice A24 ((0 :: mayL o.kind).length) c25)), (7, (Value.bool (z == r.why))), (8, (i64 ((i : Nat) : Int))), (35, (Value.bool true))] (by kernel_rfl) rfl (by kernel_rfl) ?_
    refine Dr.done (by kernel_rfl) ?_
    refine qg ?_
    refine og 2 [(2, (ptr b1)), (3, (ptr b7)), (4, (Value.bool false)), (6, (Value.slice A24 ((0 :: mayL o.kind).length) c25)), (7, (Value.bool (z == r.why))), (8, (i64 ((i : Nat) : Int))), (35, (Value.bool true)), (37, (i64 (IntKind.i64.wrap (((i : Nat) : Int) + 1))))] 2 ?_
    have e45 : IntKind.i64.wrap (((i : Nat) : Int) + 1) = ((i + 1 : Nat) : Int) := by rw [wrap_i64 (by omega) (by omega)]; omega
    rw [e45]
    clear e45
    refine og 1 [(2, (ptr b1)), (3, (ptr b7)), (4, (Value.bool false)), (6, (Value.slice A24 ((0 :: mayL o.kind).length) c25)), (7, (Value.bool (z == r.why))), (8, (i64 ((i + 1 : Nat) : Int))), (35, (Value.bool true))] 3 ?_
    refine Ops.keep (R := [(2, (ptr b1)), (3, (ptr b7)), (4, (Value.bool false)), (6, (Value.slice A24 ((0 :: mayL o.kind).length) c25)), (7, (Value.bool (z == r.why))), (8, (i64 ((i + 1 : Nat) : Int)))]) (by kernel_rfl) ?_
    refine od ?_
    exact ⟨(i + 1, (z == r.why)), ⟨rfl, hC0, (by omega), (in_step hz hin (by first | (simp_all; done) | (simp_all [eq_comm]; done))), K31, H32, H33⟩, (show (0 :: mayL o.kind).length - (i + 1) < (0 :: mayL o.kind).length - i from by omega)⟩
  ·rw [h34]
   have p46 : ¬ (((i : Nat) : Int) < (((0 :: mayL o.kind).length : Nat) : Int)) := of_decide_eq_false h34
   refine q_exit (id := 0) (by kernel_rfl) ?_
   refine qs ?_
   refine qs ?_
   refine qg ?_
   refine og 2 [(2, (ptr b1)), (3, (ptr b7)), (4, (Value.bool false)), (49, (Value.bool (!inb)))] 2 ?_
   refine od ?_
   refine q_cond (o := .tmp 49) (b := (!inb)) (by kernel_rfl) rfl (fun h47 => ?_) (fun h47 => ?_)
   ·rw [h47]
    have p48 : inb = false := (bnot_true h47)
    try rw [p48]
    have hend : ¬ (r.why = 0 ∨ r.why ∈ mayL o.kind) := fun h => by have h2 := (in_end hin (by omega)).2 (List.mem_cons.2 h); rw [(bnot_true h47)] at h2; cases h2
    refine qs ?_
    refine qg ?_
    refine og 1 [(2, (ptr b1)), (3, (ptr b7)), (4, (Value.bool false))] 1 ?_
    refine od ?_
    refine q_ret (by kernel_rfl) ?_
    refine ⟨(Value.bool false), retv_tmp rfl rfl, ?_⟩
    exact ⟨_, rfl, ⟨fun h => (by cases h), fun h => absurd h (fits_not (by omega) hend)⟩, K31⟩
   ·rw [h47]
    have p49 : inb = true := (bnot_false h47)
    try rw [p49]
    have hend : r.why = 0 ∨ r.why ∈ mayL o.kind := List.mem_cons.1 ((in_end hin (by omega)).1 (bnot_false h47))
    refine q_skip (by kernel_rfl) ?_
    refine qs ?_
    refine qs ?_
    refine qg ?_
    refine og 1 [(2, (ptr b1)), (3, (ptr b7)), (4, (Value.bool false)), (50, (ptr b1))] 1 ?_
    refine Ops.go (v := (i64 o.kind)) (by kernel_rfl) (Runs.load (t := 3) (a := ⟨b1, 0, none⟩) (by kernel_rfl) (H32.loads (by kernel_rfl))) (d := (some 51)) (by kernel_rfl) rfl ?_
    refine og 2 [(2, (ptr b1)), (3, (ptr b7)), (4, (Value.bool false)), (53, (Value.bool (o.kind == 5)))] 4 ?_
    refine Ops.split (o.kind == 5) (fun h50 => ?_) (fun h50 => ?_)
    ·rw [h50]
     have p51 : o.kind = 5 := of_beq_t h50
     refine og 1 [(2, (ptr b1)), (3, (ptr b7)), (4, (Value.bool false)), (53, (Value.bool true)), (54, (ptr b7))] 5 ?_
     refine Ops.go (v := (i64 r.why)) (by kernel_rfl) (Runs.load (t := 27) (a := ⟨b7, 0, none⟩) (by kernel_rfl) (H33.loads (by kernel_rfl))) (d := (some 55)) (by kernel_rfl) rfl ?_
     refine og 2 [(2, (ptr b1)), (3, (ptr b7)), (4, (Value.bool false)), (57, (Value.bool (r.why == 0)))] 8 ?_
     refine od ?_
     refine q_cond (o := .tmp 57) (b := (r.why == 0)) (by kernel_rfl) rfl (fun h52 => ?_) (fun h52 => ?_)
     ·rw [h52]
      have p53 : r.why = 0 := of_beq_t h52
      refine qs ?_
      refine qg ?_
      refine og 1 [(2, (ptr b1)), (3, (ptr b7)), (4, (Value.bool false)), (58, (Value.pointer (some ⟨b7, 1, none⟩)))] 1 ?_
      refine Ops.go (v := (i64 r.amount)) (by kernel_rfl) (Runs.load (t := 2) (a := ⟨b7, 1, none⟩) (by kernel_rfl) (H33.loads (by kernel_rfl))) (d := (some 59)) (by kernel_rfl) rfl ?_
      refine og 2 [(2, (ptr b1)), (3, (ptr b7)), (4, (Value.bool false)), (61, (Value.bool (decide (r.amount ≥ 0))))] 4 ?_
      refine Ops.split (decide (r.amount ≥ 0)) (fun h54 => ?_) (fun h54 => ?_)
      ·rw [h54]
       have p55 : r.amount ≥ 0 := of_decide_eq_true h54
       refine og 1 [(2, (ptr b1)), (3, (ptr b7)), (4, (Value.bool false)), (61, (Value.bool true)), (62, (Value.pointer (some ⟨b7, 2, none⟩)))] 5 ?_
       refine Ops.go (v := (Value.slice A r.rows.length c)) (by kernel_rfl) (Runs.load (t := 28) (a := ⟨b7, 2, none⟩) (by kernel_rfl) (H33.loads (by kernel_rfl))) (d := (some 63)) (by kernel_rfl) rfl ?_
       refine og 4 [(2, (ptr b1)), (3, (ptr b7)), (4, (Value.bool (((r.rows.length : Nat) : Int) == 0)))] 10 ?_
       refine od ?_
       refine q_ret (by kernel_rfl) ?_
       refine ⟨(Value.bool (((r.rows.length : Nat) : Int) == 0)), retv_tmp rfl rfl, ?_⟩
       exact ⟨_, rfl, (by first | (rw [fits_ref (by omega) hend (by omega)]; exact ⟨fun h => (by cases h), fun h => by exfalso; omega⟩) | (rw [fits_bal (by omega) (by omega) (by omega)]; first | (simp only [decide_eq_true_eq, Bool.false_eq_true, false_iff, true_iff]; omega) | (simp; omega))), K31⟩
      ·rw [h54]
       have p56 : ¬ (r.amount ≥ 0) := of_decide_eq_false h54
       refine og 6 [(2, (ptr b1)), (3, (ptr b7)), (4, (Value.bool false))] 10 ?_
       refine od ?_
       refine q_ret (by kernel_rfl) ?_
       refine ⟨(Value.bool false), retv_tmp rfl rfl, ?_⟩
       exact ⟨_, rfl, (by first | (rw [fits_ref (by omega) hend (by omega)]; exact ⟨fun h => (by cases h), fun h => by exfalso; omega⟩) | (rw [fits_bal (by omega) (by omega) (by omega)]; first | (simp only [decide_eq_true_eq, Bool.false_eq_true, false_iff, true_iff]; omega) | (simp; omega))), K31⟩
     ·rw [h52]
      have p57 : ¬ (r.why = 0) := of_beq_f h52
      refine q_skip (by kernel_rfl) ?_
      refine qs ?_
      refine qs ?_
      refine qg ?_
      refine og 1 [(3, (ptr b7)), (4, (Value.bool false)), (67, (ptr b1))] 1 ?_
      refine Ops.go (v := (i64 o.kind)) (by kernel_rfl) (Runs.load (t := 3) (a := ⟨b1, 0, none⟩) (by kernel_rfl) (H32.loads (by kernel_rfl))) (d := (some 68)) (by kernel_rfl) rfl ?_
      refine og 2 [(3, (ptr b7)), (4, (Value.bool false)), (70, (Value.bool (o.kind != 6)))] 4 ?_
      refine Ops.split (o.kind != 6) (fun h58 => ?_) (fun h58 => ?_)
      ·rw [h58]
       have p59 : ¬ (o.kind = 6) := of_bne_t h58
       refine og 1 [(3, (ptr b7)), (4, (Value.bool false)), (70, (Value.bool true)), (71, (Value.pointer (some ⟨b7, 2, none⟩)))] 5 ?_
       refine Ops.go (v := (Value.slice A r.rows.length c)) (by kernel_rfl) (Runs.load (t := 28) (a := ⟨b7, 2, none⟩) (by kernel_rfl) (H33.loads (by kernel_rfl))) (d := (some 72)) (by kernel_rfl) rfl ?_
       refine og 4 [(3, (ptr b7)), (4, (Value.bool false)), (76, (Value.bool (decide (((r.rows.length : Nat) : Int) > 0))))] 10 ?_
       refine Ops.split (decide (((r.rows.length : Nat) : Int) > 0)) (fun h60 => ?_) (fun h60 => ?_)
       ·rw [h60]
        have p61 : ((r.rows.length : Nat) : Int) > 0 := of_decide_eq_true h60
        refine og 4 [(3, (ptr b7)), (4, (Value.bool false)), (80, (Value.bool true))] 14 ?_
        refine od ?_
        refine q_then (o := .tmp 80) (by kernel_rfl) rfl ?_
        refine qs ?_
        refine qg ?_
        refine og 1 [(3, (ptr b7)), (4, (Value.bool false))] 1 ?_
        refine od ?_
        refine q_ret (by kernel_rfl) ?_
        refine ⟨(Value.bool false), retv_tmp rfl rfl, ?_⟩
        exact ⟨_, rfl, (by first | (rw [fits_ref (by omega) hend (by omega)]; exact ⟨fun h => (by cases h), fun h => by exfalso; omega⟩) | (rw [fits_bal (by omega) (by omega) (by omega)]; first | (simp only [decide_eq_true_eq, Bool.false_eq_true, false_iff, true_iff]; omega) | (simp; omega))), K31⟩
       ·rw [h60]
        have p62 : ¬ (((r.rows.length : Nat) : Int) > 0) := of_decide_eq_false h60
        refine og 1 [(3, (ptr b7)), (4, (Value.bool false)), (76, (Value.bool false)), (77, (Value.pointer (some ⟨b7, 1, none⟩)))] 11 ?_
        refine Ops.go (v := (i64 r.amount)) (by kernel_rfl) (Runs.load (t := 2) (a := ⟨b7, 1, none⟩) (by kernel_rfl) (H33.loads (by kernel_rfl))) (d := (some 78)) (by kernel_rfl) rfl ?_
        refine og 2 [(3, (ptr b7)), (4, (Value.bool false)), (80, (Value.bool (r.amount != 0)))] 14 ?_
        refine od ?_
        refine q_cond (o := .tmp 80) (b := (r.amount != 0)) (by kernel_rfl) rfl (fun h63 => ?_) (fun h63 => ?_)
        ·rw [h63]
         have p64 : ¬ (r.amount = 0) := of_bne_t h63
         refine qs ?_
         refine qg ?_
         refine og 1 [(3, (ptr b7)), (4, (Value.bool false))] 1 ?_
         refine od ?_
         refine q_ret (by kernel_rfl) ?_
         refine ⟨(Value.bool false), retv_tmp rfl rfl, ?_⟩
         exact ⟨_, rfl, (by first | (rw [fits_ref (by omega) hend (by omega)]; exact ⟨fun h => (by cases h), fun h => by exfalso; omega⟩) | (rw [fits_bal (by omega) (by omega) (by omega)]; first | (simp only [decide_eq_true_eq, Bool.false_eq_true, false_iff, true_iff]; omega) | (simp; omega))), K31⟩
        ·rw [h63]
         have p65 : r.amount = 0 := of_bne_f h63
         refine q_skip (by kernel_rfl) ?_
         refine qs ?_
         refine qs ?_
         refine qg ?_
         refine og 1 [(3, (ptr b7)), (4, (Value.bool false)), (9, (i64 0))] 1 ?_
         refine od ?_
         refine q_block (id := 2) (by kernel_rfl) ?_
         refine q_keep (R := [(3, (ptr b7)), (9, (i64 0))]) (by kernel_rfl) ?_
         refine q_loop (fun (i : Nat) L (wx : World) => L = [(3, (ptr b7)), (9, (i64 ((i : Nat) : Int)))] ∧ i ≤ r.rows.length ∧ (∀ j, j < i → AdjP r.rows j) ∧ Keeps none_ w wx ∧ Has wx b1 (rowL [(i64 o.kind), (Value.string (str o.frm)), (Value.string (str o.to)), (i64 o.amount), (Value.string (str o.key)), (i64 o.slot), (i64 o.shard)] 24) ∧ Has wx b7 (rowL [(i64 r.why), (i64 r.amount), (Value.slice A r.rows.length c)] 30)) (fun (i : Nat) => r.rows.length - i) 0 (by kernel_rfl) ⟨rfl, Nat.zero_le _, (fun j hj => absurd hj (Nat.not_lt_zero _)), K31, H32, H33⟩ ?_
         clear H32 H33 hC0 K31
         rintro i _ w66 ⟨rfl, hi, hAdj, K67, H68, H69⟩
         refine qs ?_
         refine qs ?_
         refine qg ?_
         refine og 2 [(3, (ptr b7)), (9, (i64 ((i : Nat) : Int))), (81, (i64 ((i : Nat) : Int))), (82, (Value.pointer (some ⟨b7, 2, none⟩)))] 2 ?_
         refine Ops.go (v := (Value.slice A r.rows.length c)) (by kernel_rfl) (Runs.load (t := 28) (a := ⟨b7, 2, none⟩) (by kernel_rfl) (H69.loads (by kernel_rfl))) (d := (some 83)) (by kernel_rfl) rfl ?_
         refine og 2 [(3, (ptr b7)), (9, (i64 ((i : Nat) : Int))), (85, (Value.bool (decide (((i : Nat) : Int) < ((r.rows.length : Nat) : Int)))))] 5 ?_
         refine od ?_
         refine q_cond (o := .tmp 85) (b := (decide (((i : Nat) : Int) < ((r.rows.length : Nat) : Int)))) (by kernel_rfl) rfl (fun h70 => ?_) (fun h70 => ?_)
         ·rw [h70]
          have p71 : ((i : Nat) : Int) < ((r.rows.length : Nat) : Int) := of_decide_eq_true h70
          obtain ⟨x, hx⟩ : ∃ y, r.rows[i]? = some y := ⟨_, List.getElem?_eq_getElem (by omega)⟩
          obtain ⟨y, hy⟩ : ∃ y, r.rows[i - 1]? = some y := ⟨_, List.getElem?_eq_getElem (by omega)⟩
          have hy2 : r.rows[((((i : Nat) : Int) - 1).toNat)]? = some y := by rw [show ((((i : Nat) : Int) - 1).toNat) = i - 1 from by omega]; exact hy
          obtain ⟨rb72, ro73, hA74⟩ := Rd.addr (Rd.keep0 (by decide) hR K67) (by omega)
          refine q_skip (by kernel_rfl) ?_
          refine qs ?_
          refine q_block (id := 3) (by kernel_rfl) ?_
          refine qs ?_
          refine q_draw (fun wz => Keeps none_ w66 wz) 27 (by kernel_rfl) (by kernel_rfl) (by kernel_rfl) (fun w75 K76 _ _ => ⟨K76, ?_⟩)
          replace K67 := K67.trans K76 (U := none_) (fun i h1 h2 => h2) (fun i h1 h2 => by exact h2)
          replace H68 := H68.keep K76 (fun h => h)
          replace H69 := H69.keep K76 (fun h => h)
          refine Dr.strong (S' := (fun wz => Keeps none_ w75 wz)) (Keeps.refl w75) (fun wz hx => K76.trans hx (fun i _ h => h) (fun _ _ h => h)) ?_
          clear K76
          refine Dr.takes (fuel' := 26) (is' := [0]) [0] [(3, (ptr b7)), (9, (i64 ((i : Nat) : Int))), (85, (Value.bool true)), (88, (Value.pointer (some ⟨b7, 2, none⟩)))] (by kernel_rfl) rfl (by kernel_rfl) ?_
          refine Dr.take (i := 1) (v := (Value.slice A r.rows.length c)) (by kernel_rfl) (by kernel_rfl) (fun wz hS => Runs.load (t := 28) (a := ⟨b7, 2, none⟩) (by kernel_rfl) ((H69.keep hS (fun h => h)).loads (by kernel_rfl))) (d := (some 89)) (by kernel_rfl) rfl ?_
          refine Dr.takes (fuel' := 24) (is' := [2, 1, 0]) [2] [(3, (ptr b7)), (9, (i64 ((i : Nat) : Int))), (85, (Value.bool true)), (89, (Value.slice A r.rows.length c)), (90, (i64 ((i : Nat) : Int)))] (by kernel_rfl) rfl (by kernel_rfl) ?_
          refine Dr.take (i := 3) (v := (Value.pointer (some ⟨rb72, ro73 + i * 2, none⟩))) (by kernel_rfl) (by kernel_rfl) (fun wz hS => Runs.ixSliceE (k := IntKind.i64) (t := 28) (len := r.rows.length) (cap := c) (s := 2) (off' := ro73 + i * 2) (i := ((i : Nat) : Int)) hA74 (by kernel_rfl) (by kernel_rfl) (by omega) (by omega) (by omega)) (d := (some 91)) (by kernel_rfl) rfl ?_
          refine Dr.takes (fuel' := 22) (is' := [4, 3, 2, 1, 0]) [4] [(3, (ptr b7)), (9, (i64 ((i : Nat) : Int))), (85, (Value.bool true)), (92, (Value.pointer (some ⟨rb72, ro73 + i * 2 + 1, none⟩)))] (by kernel_rfl) rfl (by kernel_rfl) ?_
          refine Dr.take (i := 5) (v := (i64 x.amount)) (by kernel_rfl) (by kernel_rfl) (fun wz hS => Runs.load (t := 2) (a := ⟨rb72, ro73 + i * 2 + 1, none⟩) (by kernel_rfl) (RdT.ldf (f := RowM.cells) (x := x) (o := 1) RowM.two (Rd.keep0 (by decide) hR (K67.trans hS (fun _ _ h => h) (fun _ _ h => h))) (by kernel_rfl) hA74 hx rfl)) (d := (some 93)) (by kernel_rfl) rfl ?_
          refine Dr.takes (fuel' := 19) (is' := [7, 6, 5, 4, 3, 2, 1, 0]) [6, 7] [(3, (ptr b7)), (9, (i64 ((i : Nat) : Int))), (85, (Value.bool true)), (95, (Value.bool (decide (x.amount < 0))))] (by kernel_rfl) rfl (by kernel_rfl) ?_
          refine Dr.split (decide (x.amount < 0)) (fun h77 => ?_) (fun h77 => ?_)
          ·rw [h77]
           have p78 : x.amount < 0 := of_decide_eq_true h77
           refine Dr.takes (fuel' := 0) (is' := [26, 25, 24, 23, 22, 21, 20, 19, 18, 17, 16, 15, 14, 13, 12, 11, 10, 9, 8, 7, 6, 5, 4, 3, 2, 1, 0]) [8, 9, 10, 11, 12, 13, 14, 15, 16, 17, 18, 19, 20, 21, 22, 23, 24, 25, 26] [(3, (ptr b7)), (9, (i64 ((i : Nat) : Int))), (85, (Value.bool true)), (114, (Value.bool true))] (by kernel_rfl) rfl (by kernel_rfl) ?_
           refine Dr.done (by kernel_rfl) ?_
           refine q_then (o := .tmp 114) (by kernel_rfl) rfl ?_
           refine qs ?_
           refine qg ?_
           refine og 1 [(3, (ptr b7)), (4, (Value.bool false)), (9, (i64 ((i : Nat) : Int))), (85, (Value.bool true)), (114, (Value.bool true))] 1 ?_
           refine od ?_
           refine q_ret (by kernel_rfl) ?_
           refine ⟨(Value.bool false), retv_tmp rfl rfl, ?_⟩
           exact ⟨_, rfl, ⟨fun h => (by cases h), fun h => by rw [fits_ref (by omega) hend (by omega)] at h; have h2 := asc_at h.2.2 hx hy; exfalso; first | omega | exact hlt (h2.2 (by omega))⟩, K67⟩
          ·rw [h77]
           have p79 : ¬ (x.amount < 0) := of_decide_eq_false h77
           refine Dr.takes (fuel' := 16) (is' := [10, 9, 8, 7, 6, 5, 4, 3, 2, 1, 0]) [8, 9, 10] [(3, (ptr b7)), (9, (i64 ((i : Nat) : Int))), (85, (Value.bool true)), (95, (Value.bool false)), (98, (Value.bool (decide (((i : Nat) : Int) > 0))))] (by kernel_rfl) rfl (by kernel_rfl) ?_
           refine Dr.split (decide (((i : Nat) : Int) > 0)) (fun h80 => ?_) (fun h80 => ?_)
           ·rw [h80]
            have p81 : ((i : Nat) : Int) > 0 := of_decide_eq_true h80
            refine Dr.takes (fuel' := 15) (is' := [11, 10, 9, 8, 7, 6, 5, 4, 3, 2, 1, 0]) [11] [(3, (ptr b7)), (9, (i64 ((i : Nat) : Int))), (85, (Value.bool true)), (95, (Value.bool false)), (98, (Value.bool true)), (99, (Value.pointer (some ⟨b7, 2, none⟩)))] (by kernel_rfl) rfl (by kernel_rfl) ?_
            refine Dr.take (i := 12) (v := (Value.slice A r.rows.length c)) (by kernel_rfl) (by kernel_rfl) (fun wz hS => Runs.load (t := 28) (a := ⟨b7, 2, none⟩) (by kernel_rfl) ((H69.keep hS (fun h => h)).loads (by kernel_rfl))) (d := (some 100)) (by kernel_rfl) rfl ?_
            refine Dr.takes (fuel' := 13) (is' := [13, 12, 11, 10, 9, 8, 7, 6, 5, 4, 3, 2, 1, 0]) [13] [(3, (ptr b7)), (9, (i64 ((i : Nat) : Int))), (85, (Value.bool true)), (95, (Value.bool false)), (98, (Value.bool true)), (100, (Value.slice A r.rows.length c)), (101, (i64 ((i : Nat) : Int)))] (by kernel_rfl) rfl (by kernel_rfl) ?_
            refine Dr.take (i := 14) (v := (Value.pointer (some ⟨rb72, ro73 + i * 2, none⟩))) (by kernel_rfl) (by kernel_rfl) (fun wz hS => Runs.ixSliceE (k := IntKind.i64) (t := 28) (len := r.rows.length) (cap := c) (s := 2) (off' := ro73 + i * 2) (i := ((i : Nat) : Int)) hA74 (by kernel_rfl) (by kernel_rfl) (by omega) (by omega) (by omega)) (d := (some 102)) (by kernel_rfl) rfl ?_
            refine Dr.takes (fuel' := 11) (is' := [15, 14, 13, 12, 11, 10, 9, 8, 7, 6, 5, 4, 3, 2, 1, 0]) [15] [(3, (ptr b7)), (9, (i64 ((i : Nat) : Int))), (85, (Value.bool true)), (95, (Value.bool false)), (98, (Value.bool true)), (103, (Value.pointer (some ⟨rb72, ro73 + i * 2, none⟩)))] (by kernel_rfl) rfl (by kernel_rfl) ?_
            refine Dr.take (i := 16) (v := (Value.string (str x.name))) (by kernel_rfl) (by kernel_rfl) (fun wz hS => Runs.load (t := 9) (a := ⟨rb72, ro73 + i * 2, none⟩) (by kernel_rfl) (RdT.ldf (f := RowM.cells) (x := x) (o := 0) RowM.two (Rd.keep0 (by decide) hR (K67.trans hS (fun _ _ h => h) (fun _ _ h => h))) (by kernel_rfl) hA74 hx rfl)) (d := (some 104)) (by kernel_rfl) rfl ?_
            refine Dr.takes (fuel' := 9) (is' := [17, 16, 15, 14, 13, 12, 11, 10, 9, 8, 7, 6, 5, 4, 3, 2, 1, 0]) [17] [(3, (ptr b7)), (9, (i64 ((i : Nat) : Int))), (85, (Value.bool true)), (95, (Value.bool false)), (98, (Value.bool true)), (104, (Value.string (str x.name))), (105, (Value.pointer (some ⟨b7, 2, none⟩)))] (by kernel_rfl) rfl (by kernel_rfl) ?_
            refine Dr.take (i := 18) (v := (Value.slice A r.rows.length c)) (by kernel_rfl) (by kernel_rfl) (fun wz hS => Runs.load (t := 28) (a := ⟨b7, 2, none⟩) (by kernel_rfl) ((H69.keep hS (fun h => h)).loads (by kernel_rfl))) (d := (some 106)) (by kernel_rfl) rfl ?_
            refine Dr.takes (fuel' := 6) (is' := [20, 19, 18, 17, 16, 15, 14, 13, 12, 11, 10, 9, 8, 7, 6, 5, 4, 3, 2, 1, 0]) [19, 20] [(3, (ptr b7)), (9, (i64 ((i : Nat) : Int))), (85, (Value.bool true)), (95, (Value.bool false)), (98, (Value.bool true)), (104, (Value.string (str x.name))), (106, (Value.slice A r.rows.length c)), (108, (i64 (IntKind.i64.wrap (((i : Nat) : Int) - 1))))] (by kernel_rfl) rfl (by kernel_rfl) ?_
            have e82 : IntKind.i64.wrap (((i : Nat) : Int) - 1) = ((i : Nat) : Int) - 1 := wrap_i64 (by omega) (by omega)
            rw [e82]
            refine Dr.take (i := 21) (v := (Value.pointer (some ⟨rb72, ro73 + ((((i : Nat) : Int) - 1).toNat) * 2, none⟩))) (by kernel_rfl) (by kernel_rfl) (fun wz hS => Runs.ixSliceE (k := IntKind.i64) (t := 28) (len := r.rows.length) (cap := c) (s := 2) (off' := ro73 + ((((i : Nat) : Int) - 1).toNat) * 2) (i := ((i : Nat) : Int) - 1) hA74 (by kernel_rfl) (by kernel_rfl) (by omega) (by omega) (by omega)) (d := (some 109)) (by kernel_rfl) rfl ?_
            refine Dr.takes (fuel' := 4) (is' := [22, 21, 20, 19, 18, 17, 16, 15, 14, 13, 12, 11, 10, 9, 8, 7, 6, 5, 4, 3, 2, 1, 0]) [22] [(3, (ptr b7)), (9, (i64 ((i : Nat) : Int))), (85, (Value.bool true)), (95, (Value.bool false)), (98, (Value.bool true)), (104, (Value.string (str x.name))), (110, (Value.pointer (some ⟨rb72, ro73 + ((((i : Nat) : Int) - 1).toNat) * 2, none⟩)))] (by kernel_rfl) rfl (by kernel_rfl) ?_
            refine Dr.take (i := 23) (v := (Value.string (str y.name))) (by kernel_rfl) (by kernel_rfl) (fun wz hS => Runs.load (t := 9) (a := ⟨rb72, ro73 + ((((i : Nat) : Int) - 1).toNat) * 2, none⟩) (by kernel_rfl) (RdT.ldf (f := RowM.cells) (x := y) (o := 0) RowM.two (Rd.keep0 (by decide) hR (K67.trans hS (fun _ _ h => h) (fun _ _ h => h))) (by kernel_rfl) hA74 hy2 rfl)) (d := (some 111)) (by kernel_rfl) rfl ?_
            refine Dr.take (i := 24) (v := (Value.bool (decide (x.name < y.name) || x.name == y.name))) (by kernel_rfl) (by kernel_rfl) (fun wz hS => Runs.strleq (t := 9) (by kernel_rfl)) (d := (some 112)) (by kernel_rfl) rfl ?_
            refine Dr.takes (fuel' := 0) (is' := [26, 25, 24, 23, 22, 21, 20, 19, 18, 17, 16, 15, 14, 13, 12, 11, 10, 9, 8, 7, 6, 5, 4, 3, 2, 1, 0]) [25, 26] [(3, (ptr b7)), (9, (i64 ((i : Nat) : Int))), (85, (Value.bool true)), (114, (Value.bool (decide (x.name < y.name) || x.name == y.name)))] (by kernel_rfl) rfl (by kernel_rfl) ?_
            refine Dr.done (by kernel_rfl) ?_
            refine q_cond (o := .tmp 114) (b := (decide (x.name < y.name) || x.name == y.name)) (by kernel_rfl) rfl (fun h83 => ?_) (fun h83 => ?_)
            ·rw [h83]
             have p84 : (decide (x.name < y.name) || x.name == y.name) = true := h83
             have hlt := nlt_of_le h83
             refine qs ?_
             refine qg ?_
             refine og 1 [(3, (ptr b7)), (4, (Value.bool false)), (9, (i64 ((i : Nat) : Int))), (85, (Value.bool true)), (114, (Value.bool true))] 1 ?_
             refine od ?_
             refine q_ret (by kernel_rfl) ?_
             refine ⟨(Value.bool false), retv_tmp rfl rfl, ?_⟩
             exact ⟨_, rfl, ⟨fun h => (by cases h), fun h => by rw [fits_ref (by omega) hend (by omega)] at h; have h2 := asc_at h.2.2 hx hy; exfalso; first | omega | exact hlt (h2.2 (by omega))⟩, K67⟩
            ·rw [h83]
             have p85 : (decide (x.name < y.name) || x.name == y.name) = false := h83
             have hlt := lt_of_nle h83
             refine q_skip (by kernel_rfl) ?_
             refine qg ?_
             refine og 2 [(3, (ptr b7)), (9, (i64 ((i : Nat) : Int))), (85, (Value.bool true)), (87, (i64 (IntKind.i64.wrap (((i : Nat) : Int) + 1)))), (114, (Value.bool false))] 2 ?_
             have e86 : IntKind.i64.wrap (((i : Nat) : Int) + 1) = ((i + 1 : Nat) : Int) := by rw [wrap_i64 (by omega) (by omega)]; omega
             rw [e86]
             clear e86
             refine og 1 [(3, (ptr b7)), (9, (i64 ((i + 1 : Nat) : Int))), (85, (Value.bool true)), (114, (Value.bool false))] 3 ?_
             refine Ops.keep (R := [(3, (ptr b7)), (9, (i64 ((i + 1 : Nat) : Int)))]) (by kernel_rfl) ?_
             refine od ?_
             exact ⟨i + 1, ⟨rfl, (by omega), (adj_step hx hy hAdj (by omega) (fun h0 => by first | exact hlt | (exfalso; omega))), K67, H68, H69⟩, (show r.rows.length - (i + 1) < r.rows.length - i from by omega)⟩
           ·rw [h80]
            have p87 : ¬ (((i : Nat) : Int) > 0) := of_decide_eq_false h80
            refine Dr.takes (fuel' := 0) (is' := [26, 25, 24, 23, 22, 21, 20, 19, 18, 17, 16, 15, 14, 13, 12, 11, 10, 9, 8, 7, 6, 5, 4, 3, 2, 1, 0]) [11, 12, 13, 14, 15, 16, 17, 18, 19, 20, 21, 22, 23, 24, 25, 26] [(3, (ptr b7)), (9, (i64 ((i : Nat) : Int))), (85, (Value.bool true)), (114, (Value.bool false))] (by kernel_rfl) rfl (by kernel_rfl) ?_
            refine Dr.done (by kernel_rfl) ?_
            refine q_else (o := .tmp 114) (by kernel_rfl) rfl ?_
            refine q_skip (by kernel_rfl) ?_
            refine qg ?_
            refine og 2 [(3, (ptr b7)), (9, (i64 ((i : Nat) : Int))), (85, (Value.bool true)), (87, (i64 (IntKind.i64.wrap (((i : Nat) : Int) + 1)))), (114, (Value.bool false))] 2 ?_
            have e88 : IntKind.i64.wrap (((i : Nat) : Int) + 1) = ((i + 1 : Nat) : Int) := by rw [wrap_i64 (by omega) (by omega)]; omega
            rw [e88]
            clear e88
            refine og 1 [(3, (ptr b7)), (9, (i64 ((i + 1 : Nat) : Int))), (85, (Value.bool true)), (114, (Value.bool false))] 3 ?_
            refine Ops.keep (R := [(3, (ptr b7)), (9, (i64 ((i + 1 : Nat) : Int)))]) (by kernel_rfl) ?_
            refine od ?_
            exact ⟨i + 1, ⟨rfl, (by omega), (adj_step hx hy hAdj (by omega) (fun h0 => by first | exact hlt | (exfalso; omega))), K67, H68, H69⟩, (show r.rows.length - (i + 1) < r.rows.length - i from by omega)⟩
         ·rw [h70]
          have p89 : ¬ (((i : Nat) : Int) < ((r.rows.length : Nat) : Int)) := of_decide_eq_false h70
          refine q_exit (id := 2) (by kernel_rfl) ?_
          refine qs ?_
          refine qg ?_
          refine og 1 [(4, (Value.bool true))] 1 ?_
          refine od ?_
          refine q_ret (by kernel_rfl) ?_
          refine ⟨(Value.bool true), retv_tmp rfl rfl, ?_⟩
          exact ⟨_, rfl, (by rw [fits_ref (by omega) hend (by omega)]; have hA : AscP r.rows := fun j hj => hAdj j (by omega); exact ⟨fun _ => ⟨by omega, by omega, hA⟩, fun _ => rfl⟩), K67⟩
      ·rw [h58]
       have p90 : o.kind = 6 := of_bne_f h58
       refine og 7 [(3, (ptr b7)), (4, (Value.bool false)), (76, (Value.bool false)), (77, (Value.pointer (some ⟨b7, 1, none⟩)))] 11 ?_
       refine Ops.go (v := (i64 r.amount)) (by kernel_rfl) (Runs.load (t := 2) (a := ⟨b7, 1, none⟩) (by kernel_rfl) (H33.loads (by kernel_rfl))) (d := (some 78)) (by kernel_rfl) rfl ?_
       refine og 2 [(3, (ptr b7)), (4, (Value.bool false)), (80, (Value.bool (r.amount != 0)))] 14 ?_
       refine od ?_
       refine q_cond (o := .tmp 80) (b := (r.amount != 0)) (by kernel_rfl) rfl (fun h91 => ?_) (fun h91 => ?_)
       ·rw [h91]
        have p92 : ¬ (r.amount = 0) := of_bne_t h91
        refine qs ?_
        refine qg ?_
        refine og 1 [(3, (ptr b7)), (4, (Value.bool false))] 1 ?_
        refine od ?_
        refine q_ret (by kernel_rfl) ?_
        refine ⟨(Value.bool false), retv_tmp rfl rfl, ?_⟩
        exact ⟨_, rfl, (by first | (rw [fits_ref (by omega) hend (by omega)]; exact ⟨fun h => (by cases h), fun h => by exfalso; omega⟩) | (rw [fits_bal (by omega) (by omega) (by omega)]; first | (simp only [decide_eq_true_eq, Bool.false_eq_true, false_iff, true_iff]; omega) | (simp; omega))), K31⟩
       ·rw [h91]
        have p93 : r.amount = 0 := of_bne_f h91
        refine q_skip (by kernel_rfl) ?_
        refine qs ?_
        refine qs ?_
        refine qg ?_
        refine og 1 [(3, (ptr b7)), (4, (Value.bool false)), (9, (i64 0))] 1 ?_
        refine od ?_
        refine q_block (id := 2) (by kernel_rfl) ?_
        refine q_keep (R := [(3, (ptr b7)), (9, (i64 0))]) (by kernel_rfl) ?_
        refine q_loop (fun (i : Nat) L (wx : World) => L = [(3, (ptr b7)), (9, (i64 ((i : Nat) : Int)))] ∧ i ≤ r.rows.length ∧ (∀ j, j < i → AdjP r.rows j) ∧ Keeps none_ w wx ∧ Has wx b1 (rowL [(i64 o.kind), (Value.string (str o.frm)), (Value.string (str o.to)), (i64 o.amount), (Value.string (str o.key)), (i64 o.slot), (i64 o.shard)] 24) ∧ Has wx b7 (rowL [(i64 r.why), (i64 r.amount), (Value.slice A r.rows.length c)] 30)) (fun (i : Nat) => r.rows.length - i) 0 (by kernel_rfl) ⟨rfl, Nat.zero_le _, (fun j hj => absurd hj (Nat.not_lt_zero _)), K31, H32, H33⟩ ?_
        clear H32 H33 hC0 K31
        rintro i _ w94 ⟨rfl, hi, hAdj, K95, H96, H97⟩
        refine qs ?_
        refine qs ?_
        refine qg ?_
        refine og 2 [(3, (ptr b7)), (9, (i64 ((i : Nat) : Int))), (81, (i64 ((i : Nat) : Int))), (82, (Value.pointer (some ⟨b7, 2, none⟩)))] 2 ?_
        refine Ops.go (v := (Value.slice A r.rows.length c)) (by kernel_rfl) (Runs.load (t := 28) (a := ⟨b7, 2, none⟩) (by kernel_rfl) (H97.loads (by kernel_rfl))) (d := (some 83)) (by kernel_rfl) rfl ?_
        refine og 2 [(3, (ptr b7)), (9, (i64 ((i : Nat) : Int))), (85, (Value.bool (decide (((i : Nat) : Int) < ((r.rows.length : Nat) : Int)))))] 5 ?_
        refine od ?_
        refine q_cond (o := .tmp 85) (b := (decide (((i : Nat) : Int) < ((r.rows.length : Nat) : Int)))) (by kernel_rfl) rfl (fun h98 => ?_) (fun h98 => ?_)
        ·rw [h98]
         have p99 : ((i : Nat) : Int) < ((r.rows.length : Nat) : Int) := of_decide_eq_true h98
         obtain ⟨x, hx⟩ : ∃ y, r.rows[i]? = some y := ⟨_, List.getElem?_eq_getElem (by omega)⟩
         obtain ⟨y, hy⟩ : ∃ y, r.rows[i - 1]? = some y := ⟨_, List.getElem?_eq_getElem (by omega)⟩
         have hy2 : r.rows[((((i : Nat) : Int) - 1).toNat)]? = some y := by rw [show ((((i : Nat) : Int) - 1).toNat) = i - 1 from by omega]; exact hy
         obtain ⟨rb100, ro101, hA102⟩ := Rd.addr (Rd.keep0 (by decide) hR K95) (by omega)
         refine q_skip (by kernel_rfl) ?_
         refine qs ?_
         refine q_block (id := 3) (by kernel_rfl) ?_
         refine qs ?_
         refine q_draw (fun wz => Keeps none_ w94 wz) 27 (by kernel_rfl) (by kernel_rfl) (by kernel_rfl) (fun w103 K104 _ _ => ⟨K104, ?_⟩)
         replace K95 := K95.trans K104 (U := none_) (fun i h1 h2 => h2) (fun i h1 h2 => by exact h2)
         replace H96 := H96.keep K104 (fun h => h)
         replace H97 := H97.keep K104 (fun h => h)
         refine Dr.strong (S' := (fun wz => Keeps none_ w103 wz)) (Keeps.refl w103) (fun wz hx => K104.trans hx (fun i _ h => h) (fun _ _ h => h)) ?_
         clear K104
         refine Dr.takes (fuel' := 26) (is' := [0]) [0] [(3, (ptr b7)), (9, (i64 ((i : Nat) : Int))), (85, (Value.bool true)), (88, (Value.pointer (some ⟨b7, 2, none⟩)))] (by kernel_rfl) rfl (by kernel_rfl) ?_
         refine Dr.take (i := 1) (v := (Value.slice A r.rows.length c)) (by kernel_rfl) (by kernel_rfl) (fun wz hS => Runs.load (t := 28) (a := ⟨b7, 2, none⟩) (by kernel_rfl) ((H97.keep hS (fun h => h)).loads (by kernel_rfl))) (d := (some 89)) (by kernel_rfl) rfl ?_
         refine Dr.takes (fuel' := 24) (is' := [2, 1, 0]) [2] [(3, (ptr b7)), (9, (i64 ((i : Nat) : Int))), (85, (Value.bool true)), (89, (Value.slice A r.rows.length c)), (90, (i64 ((i : Nat) : Int)))] (by kernel_rfl) rfl (by kernel_rfl) ?_
         refine Dr.take (i := 3) (v := (Value.pointer (some ⟨rb100, ro101 + i * 2, none⟩))) (by kernel_rfl) (by kernel_rfl) (fun wz hS => Runs.ixSliceE (k := IntKind.i64) (t := 28) (len := r.rows.length) (cap := c) (s := 2) (off' := ro101 + i * 2) (i := ((i : Nat) : Int)) hA102 (by kernel_rfl) (by kernel_rfl) (by omega) (by omega) (by omega)) (d := (some 91)) (by kernel_rfl) rfl ?_
         refine Dr.takes (fuel' := 22) (is' := [4, 3, 2, 1, 0]) [4] [(3, (ptr b7)), (9, (i64 ((i : Nat) : Int))), (85, (Value.bool true)), (92, (Value.pointer (some ⟨rb100, ro101 + i * 2 + 1, none⟩)))] (by kernel_rfl) rfl (by kernel_rfl) ?_
         refine Dr.take (i := 5) (v := (i64 x.amount)) (by kernel_rfl) (by kernel_rfl) (fun wz hS => Runs.load (t := 2) (a := ⟨rb100, ro101 + i * 2 + 1, none⟩) (by kernel_rfl) (RdT.ldf (f := RowM.cells) (x := x) (o := 1) RowM.two (Rd.keep0 (by decide) hR (K95.trans hS (fun _ _ h => h) (fun _ _ h => h))) (by kernel_rfl) hA102 hx rfl)) (d := (some 93)) (by kernel_rfl) rfl ?_
         refine Dr.takes (fuel' := 19) (is' := [7, 6, 5, 4, 3, 2, 1, 0]) [6, 7] [(3, (ptr b7)), (9, (i64 ((i : Nat) : Int))), (85, (Value.bool true)), (95, (Value.bool (decide (x.amount < 0))))] (by kernel_rfl) rfl (by kernel_rfl) ?_
         refine Dr.split (decide (x.amount < 0)) (fun h105 => ?_) (fun h105 => ?_)
         ·rw [h105]
          have p106 : x.amount < 0 := of_decide_eq_true h105
          refine Dr.takes (fuel' := 0) (is' := [26, 25, 24, 23, 22, 21, 20, 19, 18, 17, 16, 15, 14, 13, 12, 11, 10, 9, 8, 7, 6, 5, 4, 3, 2, 1, 0]) [8, 9, 10, 11, 12, 13, 14, 15, 16, 17, 18, 19, 20, 21, 22, 23, 24, 25, 26] [(3, (ptr b7)), (9, (i64 ((i : Nat) : Int))), (85, (Value.bool true)), (114, (Value.bool true))] (by kernel_rfl) rfl (by kernel_rfl) ?_
          refine Dr.done (by kernel_rfl) ?_
          refine q_then (o := .tmp 114) (by kernel_rfl) rfl ?_
          refine qs ?_
          refine qg ?_
          refine og 1 [(3, (ptr b7)), (4, (Value.bool false)), (9, (i64 ((i : Nat) : Int))), (85, (Value.bool true)), (114, (Value.bool true))] 1 ?_
          refine od ?_
          refine q_ret (by kernel_rfl) ?_
          refine ⟨(Value.bool false), retv_tmp rfl rfl, ?_⟩
          exact ⟨_, rfl, ⟨fun h => (by cases h), fun h => by rw [fits_ref (by omega) hend (by omega)] at h; have h2 := asc_at h.2.2 hx hy; exfalso; first | omega | exact hlt (h2.2 (by omega))⟩, K95⟩
         ·rw [h105]
          have p107 : ¬ (x.amount < 0) := of_decide_eq_false h105
          refine Dr.takes (fuel' := 16) (is' := [10, 9, 8, 7, 6, 5, 4, 3, 2, 1, 0]) [8, 9, 10] [(3, (ptr b7)), (9, (i64 ((i : Nat) : Int))), (85, (Value.bool true)), (95, (Value.bool false)), (98, (Value.bool (decide (((i : Nat) : Int) > 0))))] (by kernel_rfl) rfl (by kernel_rfl) ?_
          refine Dr.split (decide (((i : Nat) : Int) > 0)) (fun h108 => ?_) (fun h108 => ?_)
          ·rw [h108]
           have p109 : ((i : Nat) : Int) > 0 := of_decide_eq_true h108
           refine Dr.takes (fuel' := 15) (is' := [11, 10, 9, 8, 7, 6, 5, 4, 3, 2, 1, 0]) [11] [(3, (ptr b7)), (9, (i64 ((i : Nat) : Int))), (85, (Value.bool true)), (95, (Value.bool false)), (98, (Value.bool true)), (99, (Value.pointer (some ⟨b7, 2, none⟩)))] (by kernel_rfl) rfl (by kernel_rfl) ?_
           refine Dr.take (i := 12) (v := (Value.slice A r.rows.length c)) (by kernel_rfl) (by kernel_rfl) (fun wz hS => Runs.load (t := 28) (a := ⟨b7, 2, none⟩) (by kernel_rfl) ((H97.keep hS (fun h => h)).loads (by kernel_rfl))) (d := (some 100)) (by kernel_rfl) rfl ?_
           refine Dr.takes (fuel' := 13) (is' := [13, 12, 11, 10, 9, 8, 7, 6, 5, 4, 3, 2, 1, 0]) [13] [(3, (ptr b7)), (9, (i64 ((i : Nat) : Int))), (85, (Value.bool true)), (95, (Value.bool false)), (98, (Value.bool true)), (100, (Value.slice A r.rows.length c)), (101, (i64 ((i : Nat) : Int)))] (by kernel_rfl) rfl (by kernel_rfl) ?_
           refine Dr.take (i := 14) (v := (Value.pointer (some ⟨rb100, ro101 + i * 2, none⟩))) (by kernel_rfl) (by kernel_rfl) (fun wz hS => Runs.ixSliceE (k := IntKind.i64) (t := 28) (len := r.rows.length) (cap := c) (s := 2) (off' := ro101 + i * 2) (i := ((i : Nat) : Int)) hA102 (by kernel_rfl) (by kernel_rfl) (by omega) (by omega) (by omega)) (d := (some 102)) (by kernel_rfl) rfl ?_
           refine Dr.takes (fuel' := 11) (is' := [15, 14, 13, 12, 11, 10, 9, 8, 7, 6, 5, 4, 3, 2, 1, 0]) [15] [(3, (ptr b7)), (9, (i64 ((i : Nat) : Int))), (85, (Value.bool true)), (95, (Value.bool false)), (98, (Value.bool true)), (103, (Value.pointer (some ⟨rb100, ro101 + i * 2, none⟩)))] (by kernel_rfl) rfl (by kernel_rfl) ?_
           refine Dr.take (i := 16) (v := (Value.string (str x.name))) (by kernel_rfl) (by kernel_rfl) (fun wz hS => Runs.load (t := 9) (a := ⟨rb100, ro101 + i * 2, none⟩) (by kernel_rfl) (RdT.ldf (f := RowM.cells) (x := x) (o := 0) RowM.two (Rd.keep0 (by decide) hR (K95.trans hS (fun _ _ h => h) (fun _ _ h => h))) (by kernel_rfl) hA102 hx rfl)) (d := (some 104)) (by kernel_rfl) rfl ?_
           refine Dr.takes (fuel' := 9) (is' := [17, 16, 15, 14, 13, 12, 11, 10, 9, 8, 7, 6, 5, 4, 3, 2, 1, 0]) [17] [(3, (ptr b7)), (9, (i64 ((i : Nat) : Int))), (85, (Value.bool true)), (95, (Value.bool false)), (98, (Value.bool true)), (104, (Value.string (str x.name))), (105, (Value.pointer (some ⟨b7, 2, none⟩)))] (by kernel_rfl) rfl (by kernel_rfl) ?_
           refine Dr.take (i := 18) (v := (Value.slice A r.rows.length c)) (by kernel_rfl) (by kernel_rfl) (fun wz hS => Runs.load (t := 28) (a := ⟨b7, 2, none⟩) (by kernel_rfl) ((H97.keep hS (fun h => h)).loads (by kernel_rfl))) (d := (some 106)) (by kernel_rfl) rfl ?_
           refine Dr.takes (fuel' := 6) (is' := [20, 19, 18, 17, 16, 15, 14, 13, 12, 11, 10, 9, 8, 7, 6, 5, 4, 3, 2, 1, 0]) [19, 20] [(3, (ptr b7)), (9, (i64 ((i : Nat) : Int))), (85, (Value.bool true)), (95, (Value.bool false)), (98, (Value.bool true)), (104, (Value.string (str x.name))), (106, (Value.slice A r.rows.length c)), (108, (i64 (IntKind.i64.wrap (((i : Nat) : Int) - 1))))] (by kernel_rfl) rfl (by kernel_rfl) ?_
           have e110 : IntKind.i64.wrap (((i : Nat) : Int) - 1) = ((i : Nat) : Int) - 1 := wrap_i64 (by omega) (by omega)
           rw [e110]
           refine Dr.take (i := 21) (v := (Value.pointer (some ⟨rb100, ro101 + ((((i : Nat) : Int) - 1).toNat) * 2, none⟩))) (by kernel_rfl) (by kernel_rfl) (fun wz hS => Runs.ixSliceE (k := IntKind.i64) (t := 28) (len := r.rows.length) (cap := c) (s := 2) (off' := ro101 + ((((i : Nat) : Int) - 1).toNat) * 2) (i := ((i : Nat) : Int) - 1) hA102 (by kernel_rfl) (by kernel_rfl) (by omega) (by omega) (by omega)) (d := (some 109)) (by kernel_rfl) rfl ?_
           refine Dr.takes (fuel' := 4) (is' := [22, 21, 20, 19, 18, 17, 16, 15, 14, 13, 12, 11, 10, 9, 8, 7, 6, 5, 4, 3, 2, 1, 0]) [22] [(3, (ptr b7)), (9, (i64 ((i : Nat) : Int))), (85, (Value.bool true)), (95, (Value.bool false)), (98, (Value.bool true)), (104, (Value.string (str x.name))), (110, (Value.pointer (some ⟨rb100, ro101 + ((((i : Nat) : Int) - 1).toNat) * 2, none⟩)))] (by kernel_rfl) rfl (by kernel_rfl) ?_
           refine Dr.take (i := 23) (v := (Value.string (str y.name))) (by kernel_rfl) (by kernel_rfl) (fun wz hS => Runs.load (t := 9) (a := ⟨rb100, ro101 + ((((i : Nat) : Int) - 1).toNat) * 2, none⟩) (by kernel_rfl) (RdT.ldf (f := RowM.cells) (x := y) (o := 0) RowM.two (Rd.keep0 (by decide) hR (K95.trans hS (fun _ _ h => h) (fun _ _ h => h))) (by kernel_rfl) hA102 hy2 rfl)) (d := (some 111)) (by kernel_rfl) rfl ?_
           refine Dr.take (i := 24) (v := (Value.bool (decide (x.name < y.name) || x.name == y.name))) (by kernel_rfl) (by kernel_rfl) (fun wz hS => Runs.strleq (t := 9) (by kernel_rfl)) (d := (some 112)) (by kernel_rfl) rfl ?_
           refine Dr.takes (fuel' := 0) (is' := [26, 25, 24, 23, 22, 21, 20, 19, 18, 17, 16, 15, 14, 13, 12, 11, 10, 9, 8, 7, 6, 5, 4, 3, 2, 1, 0]) [25, 26] [(3, (ptr b7)), (9, (i64 ((i : Nat) : Int))), (85, (Value.bool true)), (114, (Value.bool (decide (x.name < y.name) || x.name == y.name)))] (by kernel_rfl) rfl (by kernel_rfl) ?_
           refine Dr.done (by kernel_rfl) ?_
           refine q_cond (o := .tmp 114) (b := (decide (x.name < y.name) || x.name == y.name)) (by kernel_rfl) rfl (fun h111 => ?_) (fun h111 => ?_)
           ·rw [h111]
            have p112 : (decide (x.name < y.name) || x.name == y.name) = true := h111
            have hlt := nlt_of_le h111
            refine qs ?_
            refine qg ?_
            refine og 1 [(3, (ptr b7)), (4, (Value.bool false)), (9, (i64 ((i : Nat) : Int))), (85, (Value.bool true)), (114, (Value.bool true))] 1 ?_
            refine od ?_
            refine q_ret (by kernel_rfl) ?_
            refine ⟨(Value.bool false), retv_tmp rfl rfl, ?_⟩
            exact ⟨_, rfl, ⟨fun h => (by cases h), fun h => by rw [fits_ref (by omega) hend (by omega)] at h; have h2 := asc_at h.2.2 hx hy; exfalso; first | omega | exact hlt (h2.2 (by omega))⟩, K95⟩
           ·rw [h111]
            have p113 : (decide (x.name < y.name) || x.name == y.name) = false := h111
            have hlt := lt_of_nle h111
            refine q_skip (by kernel_rfl) ?_
            refine qg ?_
            refine og 2 [(3, (ptr b7)), (9, (i64 ((i : Nat) : Int))), (85, (Value.bool true)), (87, (i64 (IntKind.i64.wrap (((i : Nat) : Int) + 1)))), (114, (Value.bool false))] 2 ?_
            have e114 : IntKind.i64.wrap (((i : Nat) : Int) + 1) = ((i + 1 : Nat) : Int) := by rw [wrap_i64 (by omega) (by omega)]; omega
            rw [e114]
            clear e114
            refine og 1 [(3, (ptr b7)), (9, (i64 ((i + 1 : Nat) : Int))), (85, (Value.bool true)), (114, (Value.bool false))] 3 ?_
            refine Ops.keep (R := [(3, (ptr b7)), (9, (i64 ((i + 1 : Nat) : Int)))]) (by kernel_rfl) ?_
            refine od ?_
            exact ⟨i + 1, ⟨rfl, (by omega), (adj_step hx hy hAdj (by omega) (fun h0 => by first | exact hlt | (exfalso; omega))), K95, H96, H97⟩, (show r.rows.length - (i + 1) < r.rows.length - i from by omega)⟩
          ·rw [h108]
           have p115 : ¬ (((i : Nat) : Int) > 0) := of_decide_eq_false h108
           refine Dr.takes (fuel' := 0) (is' := [26, 25, 24, 23, 22, 21, 20, 19, 18, 17, 16, 15, 14, 13, 12, 11, 10, 9, 8, 7, 6, 5, 4, 3, 2, 1, 0]) [11, 12, 13, 14, 15, 16, 17, 18, 19, 20, 21, 22, 23, 24, 25, 26] [(3, (ptr b7)), (9, (i64 ((i : Nat) : Int))), (85, (Value.bool true)), (114, (Value.bool false))] (by kernel_rfl) rfl (by kernel_rfl) ?_
           refine Dr.done (by kernel_rfl) ?_
           refine q_else (o := .tmp 114) (by kernel_rfl) rfl ?_
           refine q_skip (by kernel_rfl) ?_
           refine qg ?_
           refine og 2 [(3, (ptr b7)), (9, (i64 ((i : Nat) : Int))), (85, (Value.bool true)), (87, (i64 (IntKind.i64.wrap (((i : Nat) : Int) + 1)))), (114, (Value.bool false))] 2 ?_
           have e116 : IntKind.i64.wrap (((i : Nat) : Int) + 1) = ((i + 1 : Nat) : Int) := by rw [wrap_i64 (by omega) (by omega)]; omega
           rw [e116]
           clear e116
           refine og 1 [(3, (ptr b7)), (9, (i64 ((i + 1 : Nat) : Int))), (85, (Value.bool true)), (114, (Value.bool false))] 3 ?_
           refine Ops.keep (R := [(3, (ptr b7)), (9, (i64 ((i + 1 : Nat) : Int)))]) (by kernel_rfl) ?_
           refine od ?_
           exact ⟨i + 1, ⟨rfl, (by omega), (adj_step hx hy hAdj (by omega) (fun h0 => by first | exact hlt | (exfalso; omega))), K95, H96, H97⟩, (show r.rows.length - (i + 1) < r.rows.length - i from by omega)⟩
        ·rw [h98]
         have p117 : ¬ (((i : Nat) : Int) < ((r.rows.length : Nat) : Int)) := of_decide_eq_false h98
         refine q_exit (id := 2) (by kernel_rfl) ?_
         refine qs ?_
         refine qg ?_
         refine og 1 [(4, (Value.bool true))] 1 ?_
         refine od ?_
         refine q_ret (by kernel_rfl) ?_
         refine ⟨(Value.bool true), retv_tmp rfl rfl, ?_⟩
         exact ⟨_, rfl, (by rw [fits_ref (by omega) hend (by omega)]; have hA : AscP r.rows := fun j hj => hAdj j (by omega); exact ⟨fun _ => ⟨by omega, by omega, hA⟩, fun _ => rfl⟩), K95⟩
    ·rw [h50]
     have p118 : ¬ (o.kind = 5) := of_beq_f h50
     refine og 4 [(2, (ptr b1)), (3, (ptr b7)), (4, (Value.bool false)), (57, (Value.bool false))] 8 ?_
     refine od ?_
     refine q_else (o := .tmp 57) (by kernel_rfl) rfl ?_
     refine q_skip (by kernel_rfl) ?_
     refine qs ?_
     refine qs ?_
     refine qg ?_
     refine og 1 [(3, (ptr b7)), (4, (Value.bool false)), (67, (ptr b1))] 1 ?_
     refine Ops.go (v := (i64 o.kind)) (by kernel_rfl) (Runs.load (t := 3) (a := ⟨b1, 0, none⟩) (by kernel_rfl) (H32.loads (by kernel_rfl))) (d := (some 68)) (by kernel_rfl) rfl ?_
     refine og 2 [(3, (ptr b7)), (4, (Value.bool false)), (70, (Value.bool (o.kind != 6)))] 4 ?_
     refine Ops.split (o.kind != 6) (fun h119 => ?_) (fun h119 => ?_)
     ·rw [h119]
      have p120 : ¬ (o.kind = 6) := of_bne_t h119
      refine og 1 [(3, (ptr b7)), (4, (Value.bool false)), (70, (Value.bool true)), (71, (Value.pointer (some ⟨b7, 2, none⟩)))] 5 ?_
      refine Ops.go (v := (Value.slice A r.rows.length c)) (by kernel_rfl) (Runs.load (t := 28) (a := ⟨b7, 2, none⟩) (by kernel_rfl) (H33.loads (by kernel_rfl))) (d := (some 72)) (by kernel_rfl) rfl ?_
      refine og 4 [(3, (ptr b7)), (4, (Value.bool false)), (76, (Value.bool (decide (((r.rows.length : Nat) : Int) > 0))))] 10 ?_
      refine Ops.split (decide (((r.rows.length : Nat) : Int) > 0)) (fun h121 => ?_) (fun h121 => ?_)
      ·rw [h121]
       have p122 : ((r.rows.length : Nat) : Int) > 0 := of_decide_eq_true h121
       refine og 4 [(3, (ptr b7)), (4, (Value.bool false)), (80, (Value.bool true))] 14 ?_
       refine od ?_
       refine q_then (o := .tmp 80) (by kernel_rfl) rfl ?_
       refine qs ?_
       refine qg ?_
       refine og 1 [(3, (ptr b7)), (4, (Value.bool false))] 1 ?_
       refine od ?_
       refine q_ret (by kernel_rfl) ?_
       refine ⟨(Value.bool false), retv_tmp rfl rfl, ?_⟩
       exact ⟨_, rfl, (by first | (rw [fits_ref (by omega) hend (by omega)]; exact ⟨fun h => (by cases h), fun h => by exfalso; omega⟩) | (rw [fits_bal (by omega) (by omega) (by omega)]; first | (simp only [decide_eq_true_eq, Bool.false_eq_true, false_iff, true_iff]; omega) | (simp; omega))), K31⟩
      ·rw [h121]
       have p123 : ¬ (((r.rows.length : Nat) : Int) > 0) := of_decide_eq_false h121
       refine og 1 [(3, (ptr b7)), (4, (Value.bool false)), (76, (Value.bool false)), (77, (Value.pointer (some ⟨b7, 1, none⟩)))] 11 ?_
       refine Ops.go (v := (i64 r.amount)) (by kernel_rfl) (Runs.load (t := 2) (a := ⟨b7, 1, none⟩) (by kernel_rfl) (H33.loads (by kernel_rfl))) (d := (some 78)) (by kernel_rfl) rfl ?_
       refine og 2 [(3, (ptr b7)), (4, (Value.bool false)), (80, (Value.bool (r.amount != 0)))] 14 ?_
       refine od ?_
       refine q_cond (o := .tmp 80) (b := (r.amount != 0)) (by kernel_rfl) rfl (fun h124 => ?_) (fun h124 => ?_)
       ·rw [h124]
        have p125 : ¬ (r.amount = 0) := of_bne_t h124
        refine qs ?_
        refine qg ?_
        refine og 1 [(3, (ptr b7)), (4, (Value.bool false))] 1 ?_
        refine od ?_
        refine q_ret (by kernel_rfl) ?_
        refine ⟨(Value.bool false), retv_tmp rfl rfl, ?_⟩
        exact ⟨_, rfl, (by first | (rw [fits_ref (by omega) hend (by omega)]; exact ⟨fun h => (by cases h), fun h => by exfalso; omega⟩) | (rw [fits_bal (by omega) (by omega) (by omega)]; first | (simp only [decide_eq_true_eq, Bool.false_eq_true, false_iff, true_iff]; omega) | (simp; omega))), K31⟩
       ·rw [h124]
        have p126 : r.amount = 0 := of_bne_f h124
        refine q_skip (by kernel_rfl) ?_
        refine qs ?_
        refine qs ?_
        refine qg ?_
        refine og 1 [(3, (ptr b7)), (4, (Value.bool false)), (9, (i64 0))] 1 ?_
        refine od ?_
        refine q_block (id := 2) (by kernel_rfl) ?_
        refine q_keep (R := [(3, (ptr b7)), (9, (i64 0))]) (by kernel_rfl) ?_
        refine q_loop (fun (i : Nat) L (wx : World) => L = [(3, (ptr b7)), (9, (i64 ((i : Nat) : Int)))] ∧ i ≤ r.rows.length ∧ (∀ j, j < i → AdjP r.rows j) ∧ Keeps none_ w wx ∧ Has wx b1 (rowL [(i64 o.kind), (Value.string (str o.frm)), (Value.string (str o.to)), (i64 o.amount), (Value.string (str o.key)), (i64 o.slot), (i64 o.shard)] 24) ∧ Has wx b7 (rowL [(i64 r.why), (i64 r.amount), (Value.slice A r.rows.length c)] 30)) (fun (i : Nat) => r.rows.length - i) 0 (by kernel_rfl) ⟨rfl, Nat.zero_le _, (fun j hj => absurd hj (Nat.not_lt_zero _)), K31, H32, H33⟩ ?_
        clear H32 H33 hC0 K31
        rintro i _ w127 ⟨rfl, hi, hAdj, K128, H129, H130⟩
        refine qs ?_
        refine qs ?_
        refine qg ?_
        refine og 2 [(3, (ptr b7)), (9, (i64 ((i : Nat) : Int))), (81, (i64 ((i : Nat) : Int))), (82, (Value.pointer (some ⟨b7, 2, none⟩)))] 2 ?_
        refine Ops.go (v := (Value.slice A r.rows.length c)) (by kernel_rfl) (Runs.load (t := 28) (a := ⟨b7, 2, none⟩) (by kernel_rfl) (H130.loads (by kernel_rfl))) (d := (some 83)) (by kernel_rfl) rfl ?_
        refine og 2 [(3, (ptr b7)), (9, (i64 ((i : Nat) : Int))), (85, (Value.bool (decide (((i : Nat) : Int) < ((r.rows.length : Nat) : Int)))))] 5 ?_
        refine od ?_
        refine q_cond (o := .tmp 85) (b := (decide (((i : Nat) : Int) < ((r.rows.length : Nat) : Int)))) (by kernel_rfl) rfl (fun h131 => ?_) (fun h131 => ?_)
        ·rw [h131]
         have p132 : ((i : Nat) : Int) < ((r.rows.length : Nat) : Int) := of_decide_eq_true h131
         obtain ⟨x, hx⟩ : ∃ y, r.rows[i]? = some y := ⟨_, List.getElem?_eq_getElem (by omega)⟩
         obtain ⟨y, hy⟩ : ∃ y, r.rows[i - 1]? = some y := ⟨_, List.getElem?_eq_getElem (by omega)⟩
         have hy2 : r.rows[((((i : Nat) : Int) - 1).toNat)]? = some y := by rw [show ((((i : Nat) : Int) - 1).toNat) = i - 1 from by omega]; exact hy
         obtain ⟨rb133, ro134, hA135⟩ := Rd.addr (Rd.keep0 (by decide) hR K128) (by omega)
         refine q_skip (by kernel_rfl) ?_
         refine qs ?_
         refine q_block (id := 3) (by kernel_rfl) ?_
         refine qs ?_
         refine q_draw (fun wz => Keeps none_ w127 wz) 27 (by kernel_rfl) (by kernel_rfl) (by kernel_rfl) (fun w136 K137 _ _ => ⟨K137, ?_⟩)
         replace K128 := K128.trans K137 (U := none_) (fun i h1 h2 => h2) (fun i h1 h2 => by exact h2)
         replace H129 := H129.keep K137 (fun h => h)
         replace H130 := H130.keep K137 (fun h => h)
         refine Dr.strong (S' := (fun wz => Keeps none_ w136 wz)) (Keeps.refl w136) (fun wz hx => K137.trans hx (fun i _ h => h) (fun _ _ h => h)) ?_
         clear K137
         refine Dr.takes (fuel' := 26) (is' := [0]) [0] [(3, (ptr b7)), (9, (i64 ((i : Nat) : Int))), (85, (Value.bool true)), (88, (Value.pointer (some ⟨b7, 2, none⟩)))] (by kernel_rfl) rfl (by kernel_rfl) ?_
         refine Dr.take (i := 1) (v := (Value.slice A r.rows.length c)) (by kernel_rfl) (by kernel_rfl) (fun wz hS => Runs.load (t := 28) (a := ⟨b7, 2, none⟩) (by kernel_rfl) ((H130.keep hS (fun h => h)).loads (by kernel_rfl))) (d := (some 89)) (by kernel_rfl) rfl ?_
         refine Dr.takes (fuel' := 24) (is' := [2, 1, 0]) [2] [(3, (ptr b7)), (9, (i64 ((i : Nat) : Int))), (85, (Value.bool true)), (89, (Value.slice A r.rows.length c)), (90, (i64 ((i : Nat) : Int)))] (by kernel_rfl) rfl (by kernel_rfl) ?_
         refine Dr.take (i := 3) (v := (Value.pointer (some ⟨rb133, ro134 + i * 2, none⟩))) (by kernel_rfl) (by kernel_rfl) (fun wz hS => Runs.ixSliceE (k := IntKind.i64) (t := 28) (len := r.rows.length) (cap := c) (s := 2) (off' := ro134 + i * 2) (i := ((i : Nat) : Int)) hA135 (by kernel_rfl) (by kernel_rfl) (by omega) (by omega) (by omega)) (d := (some 91)) (by kernel_rfl) rfl ?_
         refine Dr.takes (fuel' := 22) (is' := [4, 3, 2, 1, 0]) [4] [(3, (ptr b7)), (9, (i64 ((i : Nat) : Int))), (85, (Value.bool true)), (92, (Value.pointer (some ⟨rb133, ro134 + i * 2 + 1, none⟩)))] (by kernel_rfl) rfl (by kernel_rfl) ?_
         refine Dr.take (i := 5) (v := (i64 x.amount)) (by kernel_rfl) (by kernel_rfl) (fun wz hS => Runs.load (t := 2) (a := ⟨rb133, ro134 + i * 2 + 1, none⟩) (by kernel_rfl) (RdT.ldf (f := RowM.cells) (x := x) (o := 1) RowM.two (Rd.keep0 (by decide) hR (K128.trans hS (fun _ _ h => h) (fun _ _ h => h))) (by kernel_rfl) hA135 hx rfl)) (d := (some 93)) (by kernel_rfl) rfl ?_
         refine Dr.takes (fuel' := 19) (is' := [7, 6, 5, 4, 3, 2, 1, 0]) [6, 7] [(3, (ptr b7)), (9, (i64 ((i : Nat) : Int))), (85, (Value.bool true)), (95, (Value.bool (decide (x.amount < 0))))] (by kernel_rfl) rfl (by kernel_rfl) ?_
         refine Dr.split (decide (x.amount < 0)) (fun h138 => ?_) (fun h138 => ?_)
         ·rw [h138]
          have p139 : x.amount < 0 := of_decide_eq_true h138
          refine Dr.takes (fuel' := 0) (is' := [26, 25, 24, 23, 22, 21, 20, 19, 18, 17, 16, 15, 14, 13, 12, 11, 10, 9, 8, 7, 6, 5, 4, 3, 2, 1, 0]) [8, 9, 10, 11, 12, 13, 14, 15, 16, 17, 18, 19, 20, 21, 22, 23, 24, 25, 26] [(3, (ptr b7)), (9, (i64 ((i : Nat) : Int))), (85, (Value.bool true)), (114, (Value.bool true))] (by kernel_rfl) rfl (by kernel_rfl) ?_
          refine Dr.done (by kernel_rfl) ?_
          refine q_then (o := .tmp 114) (by kernel_rfl) rfl ?_
          refine qs ?_
          refine qg ?_
          refine og 1 [(3, (ptr b7)), (4, (Value.bool false)), (9, (i64 ((i : Nat) : Int))), (85, (Value.bool true)), (114, (Value.bool true))] 1 ?_
          refine od ?_
          refine q_ret (by kernel_rfl) ?_
          refine ⟨(Value.bool false), retv_tmp rfl rfl, ?_⟩
          exact ⟨_, rfl, ⟨fun h => (by cases h), fun h => by rw [fits_ref (by omega) hend (by omega)] at h; have h2 := asc_at h.2.2 hx hy; exfalso; first | omega | exact hlt (h2.2 (by omega))⟩, K128⟩
         ·rw [h138]
          have p140 : ¬ (x.amount < 0) := of_decide_eq_false h138
          refine Dr.takes (fuel' := 16) (is' := [10, 9, 8, 7, 6, 5, 4, 3, 2, 1, 0]) [8, 9, 10] [(3, (ptr b7)), (9, (i64 ((i : Nat) : Int))), (85, (Value.bool true)), (95, (Value.bool false)), (98, (Value.bool (decide (((i : Nat) : Int) > 0))))] (by kernel_rfl) rfl (by kernel_rfl) ?_
          refine Dr.split (decide (((i : Nat) : Int) > 0)) (fun h141 => ?_) (fun h141 => ?_)
          ·rw [h141]
           have p142 : ((i : Nat) : Int) > 0 := of_decide_eq_true h141
           refine Dr.takes (fuel' := 15) (is' := [11, 10, 9, 8, 7, 6, 5, 4, 3, 2, 1, 0]) [11] [(3, (ptr b7)), (9, (i64 ((i : Nat) : Int))), (85, (Value.bool true)), (95, (Value.bool false)), (98, (Value.bool true)), (99, (Value.pointer (some ⟨b7, 2, none⟩)))] (by kernel_rfl) rfl (by kernel_rfl) ?_
           refine Dr.take (i := 12) (v := (Value.slice A r.rows.length c)) (by kernel_rfl) (by kernel_rfl) (fun wz hS => Runs.load (t := 28) (a := ⟨b7, 2, none⟩) (by kernel_rfl) ((H130.keep hS (fun h => h)).loads (by kernel_rfl))) (d := (some 100)) (by kernel_rfl) rfl ?_
           refine Dr.takes (fuel' := 13) (is' := [13, 12, 11, 10, 9, 8, 7, 6, 5, 4, 3, 2, 1, 0]) [13] [(3, (ptr b7)), (9, (i64 ((i : Nat) : Int))), (85, (Value.bool true)), (95, (Value.bool false)), (98, (Value.bool true)), (100, (Value.slice A r.rows.length c)), (101, (i64 ((i : Nat) : Int)))] (by kernel_rfl) rfl (by kernel_rfl) ?_
           refine Dr.take (i := 14) (v := (Value.pointer (some ⟨rb133, ro134 + i * 2, none⟩))) (by kernel_rfl) (by kernel_rfl) (fun wz hS => Runs.ixSliceE (k := IntKind.i64) (t := 28) (len := r.rows.length) (cap := c) (s := 2) (off' := ro134 + i * 2) (i := ((i : Nat) : Int)) hA135 (by kernel_rfl) (by kernel_rfl) (by omega) (by omega) (by omega)) (d := (some 102)) (by kernel_rfl) rfl ?_
           refine Dr.takes (fuel' := 11) (is' := [15, 14, 13, 12, 11, 10, 9, 8, 7, 6, 5, 4, 3, 2, 1, 0]) [15] [(3, (ptr b7)), (9, (i64 ((i : Nat) : Int))), (85, (Value.bool true)), (95, (Value.bool false)), (98, (Value.bool true)), (103, (Value.pointer (some ⟨rb133, ro134 + i * 2, none⟩)))] (by kernel_rfl) rfl (by kernel_rfl) ?_
           refine Dr.take (i := 16) (v := (Value.string (str x.name))) (by kernel_rfl) (by kernel_rfl) (fun wz hS => Runs.load (t := 9) (a := ⟨rb133, ro134 + i * 2, none⟩) (by kernel_rfl) (RdT.ldf (f := RowM.cells) (x := x) (o := 0) RowM.two (Rd.keep0 (by decide) hR (K128.trans hS (fun _ _ h => h) (fun _ _ h => h))) (by kernel_rfl) hA135 hx rfl)) (d := (some 104)) (by kernel_rfl) rfl ?_
           refine Dr.takes (fuel' := 9) (is' := [17, 16, 15, 14, 13, 12, 11, 10, 9, 8, 7, 6, 5, 4, 3, 2, 1, 0]) [17] [(3, (ptr b7)), (9, (i64 ((i : Nat) : Int))), (85, (Value.bool true)), (95, (Value.bool false)), (98, (Value.bool true)), (104, (Value.string (str x.name))), (105, (Value.pointer (some ⟨b7, 2, none⟩)))] (by kernel_rfl) rfl (by kernel_rfl) ?_
           refine Dr.take (i := 18) (v := (Value.slice A r.rows.length c)) (by kernel_rfl) (by kernel_rfl) (fun wz hS => Runs.load (t := 28) (a := ⟨b7, 2, none⟩) (by kernel_rfl) ((H130.keep hS (fun h => h)).loads (by kernel_rfl))) (d := (some 106)) (by kernel_rfl) rfl ?_
           refine Dr.takes (fuel' := 6) (is' := [20, 19, 18, 17, 16, 15, 14, 13, 12, 11, 10, 9, 8, 7, 6, 5, 4, 3, 2, 1, 0]) [19, 20] [(3, (ptr b7)), (9, (i64 ((i : Nat) : Int))), (85, (Value.bool true)), (95, (Value.bool false)), (98, (Value.bool true)), (104, (Value.string (str x.name))), (106, (Value.slice A r.rows.length c)), (108, (i64 (IntKind.i64.wrap (((i : Nat) : Int) - 1))))] (by kernel_rfl) rfl (by kernel_rfl) ?_
           have e143 : IntKind.i64.wrap (((i : Nat) : Int) - 1) = ((i : Nat) : Int) - 1 := wrap_i64 (by omega) (by omega)
           rw [e143]
           refine Dr.take (i := 21) (v := (Value.pointer (some ⟨rb133, ro134 + ((((i : Nat) : Int) - 1).toNat) * 2, none⟩))) (by kernel_rfl) (by kernel_rfl) (fun wz hS => Runs.ixSliceE (k := IntKind.i64) (t := 28) (len := r.rows.length) (cap := c) (s := 2) (off' := ro134 + ((((i : Nat) : Int) - 1).toNat) * 2) (i := ((i : Nat) : Int) - 1) hA135 (by kernel_rfl) (by kernel_rfl) (by omega) (by omega) (by omega)) (d := (some 109)) (by kernel_rfl) rfl ?_
           refine Dr.takes (fuel' := 4) (is' := [22, 21, 20, 19, 18, 17, 16, 15, 14, 13, 12, 11, 10, 9, 8, 7, 6, 5, 4, 3, 2, 1, 0]) [22] [(3, (ptr b7)), (9, (i64 ((i : Nat) : Int))), (85, (Value.bool true)), (95, (Value.bool false)), (98, (Value.bool true)), (104, (Value.string (str x.name))), (110, (Value.pointer (some ⟨rb133, ro134 + ((((i : Nat) : Int) - 1).toNat) * 2, none⟩)))] (by kernel_rfl) rfl (by kernel_rfl) ?_
           refine Dr.take (i := 23) (v := (Value.string (str y.name))) (by kernel_rfl) (by kernel_rfl) (fun wz hS => Runs.load (t := 9) (a := ⟨rb133, ro134 + ((((i : Nat) : Int) - 1).toNat) * 2, none⟩) (by kernel_rfl) (RdT.ldf (f := RowM.cells) (x := y) (o := 0) RowM.two (Rd.keep0 (by decide) hR (K128.trans hS (fun _ _ h => h) (fun _ _ h => h))) (by kernel_rfl) hA135 hy2 rfl)) (d := (some 111)) (by kernel_rfl) rfl ?_
           refine Dr.take (i := 24) (v := (Value.bool (decide (x.name < y.name) || x.name == y.name))) (by kernel_rfl) (by kernel_rfl) (fun wz hS => Runs.strleq (t := 9) (by kernel_rfl)) (d := (some 112)) (by kernel_rfl) rfl ?_
           refine Dr.takes (fuel' := 0) (is' := [26, 25, 24, 23, 22, 21, 20, 19, 18, 17, 16, 15, 14, 13, 12, 11, 10, 9, 8, 7, 6, 5, 4, 3, 2, 1, 0]) [25, 26] [(3, (ptr b7)), (9, (i64 ((i : Nat) : Int))), (85, (Value.bool true)), (114, (Value.bool (decide (x.name < y.name) || x.name == y.name)))] (by kernel_rfl) rfl (by kernel_rfl) ?_
           refine Dr.done (by kernel_rfl) ?_
           refine q_cond (o := .tmp 114) (b := (decide (x.name < y.name) || x.name == y.name)) (by kernel_rfl) rfl (fun h144 => ?_) (fun h144 => ?_)
           ·rw [h144]
            have p145 : (decide (x.name < y.name) || x.name == y.name) = true := h144
            have hlt := nlt_of_le h144
            refine qs ?_
            refine qg ?_
            refine og 1 [(3, (ptr b7)), (4, (Value.bool false)), (9, (i64 ((i : Nat) : Int))), (85, (Value.bool true)), (114, (Value.bool true))] 1 ?_
            refine od ?_
            refine q_ret (by kernel_rfl) ?_
            refine ⟨(Value.bool false), retv_tmp rfl rfl, ?_⟩
            exact ⟨_, rfl, ⟨fun h => (by cases h), fun h => by rw [fits_ref (by omega) hend (by omega)] at h; have h2 := asc_at h.2.2 hx hy; exfalso; first | omega | exact hlt (h2.2 (by omega))⟩, K128⟩
           ·rw [h144]
            have p146 : (decide (x.name < y.name) || x.name == y.name) = false := h144
            have hlt := lt_of_nle h144
            refine q_skip (by kernel_rfl) ?_
            refine qg ?_
            refine og 2 [(3, (ptr b7)), (9, (i64 ((i : Nat) : Int))), (85, (Value.bool true)), (87, (i64 (IntKind.i64.wrap (((i : Nat) : Int) + 1)))), (114, (Value.bool false))] 2 ?_
            have e147 : IntKind.i64.wrap (((i : Nat) : Int) + 1) = ((i + 1 : Nat) : Int) := by rw [wrap_i64 (by omega) (by omega)]; omega
            rw [e147]
            clear e147
            refine og 1 [(3, (ptr b7)), (9, (i64 ((i + 1 : Nat) : Int))), (85, (Value.bool true)), (114, (Value.bool false))] 3 ?_
            refine Ops.keep (R := [(3, (ptr b7)), (9, (i64 ((i + 1 : Nat) : Int)))]) (by kernel_rfl) ?_
            refine od ?_
            exact ⟨i + 1, ⟨rfl, (by omega), (adj_step hx hy hAdj (by omega) (fun h0 => by first | exact hlt | (exfalso; omega))), K128, H129, H130⟩, (show r.rows.length - (i + 1) < r.rows.length - i from by omega)⟩
          ·rw [h141]
           have p148 : ¬ (((i : Nat) : Int) > 0) := of_decide_eq_false h141
           refine Dr.takes (fuel' := 0) (is' := [26, 25, 24, 23, 22, 21, 20, 19, 18, 17, 16, 15, 14, 13, 12, 11, 10, 9, 8, 7, 6, 5, 4, 3, 2, 1, 0]) [11, 12, 13, 14, 15, 16, 17, 18, 19, 20, 21, 22, 23, 24, 25, 26] [(3, (ptr b7)), (9, (i64 ((i : Nat) : Int))), (85, (Value.bool true)), (114, (Value.bool false))] (by kernel_rfl) rfl (by kernel_rfl) ?_
           refine Dr.done (by kernel_rfl) ?_
           refine q_else (o := .tmp 114) (by kernel_rfl) rfl ?_
           refine q_skip (by kernel_rfl) ?_
           refine qg ?_
           refine og 2 [(3, (ptr b7)), (9, (i64 ((i : Nat) : Int))), (85, (Value.bool true)), (87, (i64 (IntKind.i64.wrap (((i : Nat) : Int) + 1)))), (114, (Value.bool false))] 2 ?_
           have e149 : IntKind.i64.wrap (((i : Nat) : Int) + 1) = ((i + 1 : Nat) : Int) := by rw [wrap_i64 (by omega) (by omega)]; omega
           rw [e149]
           clear e149
           refine og 1 [(3, (ptr b7)), (9, (i64 ((i + 1 : Nat) : Int))), (85, (Value.bool true)), (114, (Value.bool false))] 3 ?_
           refine Ops.keep (R := [(3, (ptr b7)), (9, (i64 ((i + 1 : Nat) : Int)))]) (by kernel_rfl) ?_
           refine od ?_
           exact ⟨i + 1, ⟨rfl, (by omega), (adj_step hx hy hAdj (by omega) (fun h0 => by first | exact hlt | (exfalso; omega))), K128, H129, H130⟩, (show r.rows.length - (i + 1) < r.rows.length - i from by omega)⟩
        ·rw [h131]
         have p150 : ¬ (((i : Nat) : Int) < ((r.rows.length : Nat) : Int)) := of_decide_eq_false h131
         refine q_exit (id := 2) (by kernel_rfl) ?_
         refine qs ?_
         refine qg ?_
         refine og 1 [(4, (Value.bool true))] 1 ?_
         refine od ?_
         refine q_ret (by kernel_rfl) ?_
         refine ⟨(Value.bool true), retv_tmp rfl rfl, ?_⟩
         exact ⟨_, rfl, (by rw [fits_ref (by omega) hend (by omega)]; have hA : AscP r.rows := fun j hj => hAdj j (by omega); exact ⟨fun _ => ⟨by omega, by omega, hA⟩, fun _ => rfl⟩), K128⟩
     ·rw [h119]
      have p151 : o.kind = 6 := of_bne_f h119
      refine og 7 [(3, (ptr b7)), (4, (Value.bool false)), (76, (Value.bool false)), (77, (Value.pointer (some ⟨b7, 1, none⟩)))] 11 ?_
      refine Ops.go (v := (i64 r.amount)) (by kernel_rfl) (Runs.load (t := 2) (a := ⟨b7, 1, none⟩) (by kernel_rfl) (H33.loads (by kernel_rfl))) (d := (some 78)) (by kernel_rfl) rfl ?_
      refine og 2 [(3, (ptr b7)), (4, (Value.bool false)), (80, (Value.bool (r.amount != 0)))] 14 ?_
      refine od ?_
      refine q_cond (o := .tmp 80) (b := (r.amount != 0)) (by kernel_rfl) rfl (fun h152 => ?_) (fun h152 => ?_)
      ·rw [h152]
       have p153 : ¬ (r.amount = 0) := of_bne_t h152
       refine qs ?_
       refine qg ?_
       refine og 1 [(3, (ptr b7)), (4, (Value.bool false))] 1 ?_
       refine od ?_
       refine q_ret (by kernel_rfl) ?_
       refine ⟨(Value.bool false), retv_tmp rfl rfl, ?_⟩
       exact ⟨_, rfl, (by first | (rw [fits_ref (by omega) hend (by omega)]; exact ⟨fun h => (by cases h), fun h => by exfalso; omega⟩) | (rw [fits_bal (by omega) (by omega) (by omega)]; first | (simp only [decide_eq_true_eq, Bool.false_eq_true, false_iff, true_iff]; omega) | (simp; omega))), K31⟩
      ·rw [h152]
       have p154 : r.amount = 0 := of_bne_f h152
       refine q_skip (by kernel_rfl) ?_
       refine qs ?_
       refine qs ?_
       refine qg ?_
       refine og 1 [(3, (ptr b7)), (4, (Value.bool false)), (9, (i64 0))] 1 ?_
       refine od ?_
       refine q_block (id := 2) (by kernel_rfl) ?_
       refine q_keep (R := [(3, (ptr b7)), (9, (i64 0))]) (by kernel_rfl) ?_
       refine q_loop (fun (i : Nat) L (wx : World) => L = [(3, (ptr b7)), (9, (i64 ((i : Nat) : Int)))] ∧ i ≤ r.rows.length ∧ (∀ j, j < i → AdjP r.rows j) ∧ Keeps none_ w wx ∧ Has wx b1 (rowL [(i64 o.kind), (Value.string (str o.frm)), (Value.string (str o.to)), (i64 o.amount), (Value.string (str o.key)), (i64 o.slot), (i64 o.shard)] 24) ∧ Has wx b7 (rowL [(i64 r.why), (i64 r.amount), (Value.slice A r.rows.length c)] 30)) (fun (i : Nat) => r.rows.length - i) 0 (by kernel_rfl) ⟨rfl, Nat.zero_le _, (fun j hj => absurd hj (Nat.not_lt_zero _)), K31, H32, H33⟩ ?_
       clear H32 H33 hC0 K31
       rintro i _ w155 ⟨rfl, hi, hAdj, K156, H157, H158⟩
       refine qs ?_
       refine qs ?_
       refine qg ?_
       refine og 2 [(3, (ptr b7)), (9, (i64 ((i : Nat) : Int))), (81, (i64 ((i : Nat) : Int))), (82, (Value.pointer (some ⟨b7, 2, none⟩)))] 2 ?_
       refine Ops.go (v := (Value.slice A r.rows.length c)) (by kernel_rfl) (Runs.load (t := 28) (a := ⟨b7, 2, none⟩) (by kernel_rfl) (H158.loads (by kernel_rfl))) (d := (some 83)) (by kernel_rfl) rfl ?_
       refine og 2 [(3, (ptr b7)), (9, (i64 ((i : Nat) : Int))), (85, (Value.bool (decide (((i : Nat) : Int) < ((r.rows.length : Nat) : Int)))))] 5 ?_
       refine od ?_
       refine q_cond (o := .tmp 85) (b := (decide (((i : Nat) : Int) < ((r.rows.length : Nat) : Int)))) (by kernel_rfl) rfl (fun h159 => ?_) (fun h159 => ?_)
       ·rw [h159]
        have p160 : ((i : Nat) : Int) < ((r.rows.length : Nat) : Int) := of_decide_eq_true h159
        obtain ⟨x, hx⟩ : ∃ y, r.rows[i]? = some y := ⟨_, List.getElem?_eq_getElem (by omega)⟩
        obtain ⟨y, hy⟩ : ∃ y, r.rows[i - 1]? = some y := ⟨_, List.getElem?_eq_getElem (by omega)⟩
        have hy2 : r.rows[((((i : Nat) : Int) - 1).toNat)]? = some y := by rw [show ((((i : Nat) : Int) - 1).toNat) = i - 1 from by omega]; exact hy
        obtain ⟨rb161, ro162, hA163⟩ := Rd.addr (Rd.keep0 (by decide) hR K156) (by omega)
        refine q_skip (by kernel_rfl) ?_
        refine qs ?_
        refine q_block (id := 3) (by kernel_rfl) ?_
        refine qs ?_
        refine q_draw (fun wz => Keeps none_ w155 wz) 27 (by kernel_rfl) (by kernel_rfl) (by kernel_rfl) (fun w164 K165 _ _ => ⟨K165, ?_⟩)
        replace K156 := K156.trans K165 (U := none_) (fun i h1 h2 => h2) (fun i h1 h2 => by exact h2)
        replace H157 := H157.keep K165 (fun h => h)
        replace H158 := H158.keep K165 (fun h => h)
        refine Dr.strong (S' := (fun wz => Keeps none_ w164 wz)) (Keeps.refl w164) (fun wz hx => K165.trans hx (fun i _ h => h) (fun _ _ h => h)) ?_
        clear K165
        refine Dr.takes (fuel' := 26) (is' := [0]) [0] [(3, (ptr b7)), (9, (i64 ((i : Nat) : Int))), (85, (Value.bool true)), (88, (Value.pointer (some ⟨b7, 2, none⟩)))] (by kernel_rfl) rfl (by kernel_rfl) ?_
        refine Dr.take (i := 1) (v := (Value.slice A r.rows.length c)) (by kernel_rfl) (by kernel_rfl) (fun wz hS => Runs.load (t := 28) (a := ⟨b7, 2, none⟩) (by kernel_rfl) ((H158.keep hS (fun h => h)).loads (by kernel_rfl))) (d := (some 89)) (by kernel_rfl) rfl ?_
        refine Dr.takes (fuel' := 24) (is' := [2, 1, 0]) [2] [(3, (ptr b7)), (9, (i64 ((i : Nat) : Int))), (85, (Value.bool true)), (89, (Value.slice A r.rows.length c)), (90, (i64 ((i : Nat) : Int)))] (by kernel_rfl) rfl (by kernel_rfl) ?_
        refine Dr.take (i := 3) (v := (Value.pointer (some ⟨rb161, ro162 + i * 2, none⟩))) (by kernel_rfl) (by kernel_rfl) (fun wz hS => Runs.ixSliceE (k := IntKind.i64) (t := 28) (len := r.rows.length) (cap := c) (s := 2) (off' := ro162 + i * 2) (i := ((i : Nat) : Int)) hA163 (by kernel_rfl) (by kernel_rfl) (by omega) (by omega) (by omega)) (d := (some 91)) (by kernel_rfl) rfl ?_
        refine Dr.takes (fuel' := 22) (is' := [4, 3, 2, 1, 0]) [4] [(3, (ptr b7)), (9, (i64 ((i : Nat) : Int))), (85, (Value.bool true)), (92, (Value.pointer (some ⟨rb161, ro162 + i * 2 + 1, none⟩)))] (by kernel_rfl) rfl (by kernel_rfl) ?_
        refine Dr.take (i := 5) (v := (i64 x.amount)) (by kernel_rfl) (by kernel_rfl) (fun wz hS => Runs.load (t := 2) (a := ⟨rb161, ro162 + i * 2 + 1, none⟩) (by kernel_rfl) (RdT.ldf (f := RowM.cells) (x := x) (o := 1) RowM.two (Rd.keep0 (by decide) hR (K156.trans hS (fun _ _ h => h) (fun _ _ h => h))) (by kernel_rfl) hA163 hx rfl)) (d := (some 93)) (by kernel_rfl) rfl ?_
        refine Dr.takes (fuel' := 19) (is' := [7, 6, 5, 4, 3, 2, 1, 0]) [6, 7] [(3, (ptr b7)), (9, (i64 ((i : Nat) : Int))), (85, (Value.bool true)), (95, (Value.bool (decide (x.amount < 0))))] (by kernel_rfl) rfl (by kernel_rfl) ?_
        refine Dr.split (decide (x.amount < 0)) (fun h166 => ?_) (fun h166 => ?_)
        ·rw [h166]
         have p167 : x.amount < 0 := of_decide_eq_true h166
         refine Dr.takes (fuel' := 0) (is' := [26, 25, 24, 23, 22, 21, 20, 19, 18, 17, 16, 15, 14, 13, 12, 11, 10, 9, 8, 7, 6, 5, 4, 3, 2, 1, 0]) [8, 9, 10, 11, 12, 13, 14, 15, 16, 17, 18, 19, 20, 21, 22, 23, 24, 25, 26] [(3, (ptr b7)), (9, (i64 ((i : Nat) : Int))), (85, (Value.bool true)), (114, (Value.bool true))] (by kernel_rfl) rfl (by kernel_rfl) ?_
         refine Dr.done (by kernel_rfl) ?_
         refine q_then (o := .tmp 114) (by kernel_rfl) rfl ?_
         refine qs ?_
         refine qg ?_
         refine og 1 [(3, (ptr b7)), (4, (Value.bool false)), (9, (i64 ((i : Nat) : Int))), (85, (Value.bool true)), (114, (Value.bool true))] 1 ?_
         refine od ?_
         refine q_ret (by kernel_rfl) ?_
         refine ⟨(Value.bool false), retv_tmp rfl rfl, ?_⟩
         exact ⟨_, rfl, ⟨fun h => (by cases h), fun h => by rw [fits_ref (by omega) hend (by omega)] at h; have h2 := asc_at h.2.2 hx hy; exfalso; first | omega | exact hlt (h2.2 (by omega))⟩, K156⟩
        ·rw [h166]
         have p168 : ¬ (x.amount < 0) := of_decide_eq_false h166
         refine Dr.takes (fuel' := 16) (is' := [10, 9, 8, 7, 6, 5, 4, 3, 2, 1, 0]) [8, 9, 10] [(3, (ptr b7)), (9, (i64 ((i : Nat) : Int))), (85, (Value.bool true)), (95, (Value.bool false)), (98, (Value.bool (decide (((i : Nat) : Int) > 0))))] (by kernel_rfl) rfl (by kernel_rfl) ?_
         refine Dr.split (decide (((i : Nat) : Int) > 0)) (fun h169 => ?_) (fun h169 => ?_)
         ·rw [h169]
          have p170 : ((i : Nat) : Int) > 0 := of_decide_eq_true h169
          refine Dr.takes (fuel' := 15) (is' := [11, 10, 9, 8, 7, 6, 5, 4, 3, 2, 1, 0]) [11] [(3, (ptr b7)), (9, (i64 ((i : Nat) : Int))), (85, (Value.bool true)), (95, (Value.bool false)), (98, (Value.bool true)), (99, (Value.pointer (some ⟨b7, 2, none⟩)))] (by kernel_rfl) rfl (by kernel_rfl) ?_
          refine Dr.take (i := 12) (v := (Value.slice A r.rows.length c)) (by kernel_rfl) (by kernel_rfl) (fun wz hS => Runs.load (t := 28) (a := ⟨b7, 2, none⟩) (by kernel_rfl) ((H158.keep hS (fun h => h)).loads (by kernel_rfl))) (d := (some 100)) (by kernel_rfl) rfl ?_
          refine Dr.takes (fuel' := 13) (is' := [13, 12, 11, 10, 9, 8, 7, 6, 5, 4, 3, 2, 1, 0]) [13] [(3, (ptr b7)), (9, (i64 ((i : Nat) : Int))), (85, (Value.bool true)), (95, (Value.bool false)), (98, (Value.bool true)), (100, (Value.slice A r.rows.length c)), (101, (i64 ((i : Nat) : Int)))] (by kernel_rfl) rfl (by kernel_rfl) ?_
          refine Dr.take (i := 14) (v := (Value.pointer (some ⟨rb161, ro162 + i * 2, none⟩))) (by kernel_rfl) (by kernel_rfl) (fun wz hS => Runs.ixSliceE (k := IntKind.i64) (t := 28) (len := r.rows.length) (cap := c) (s := 2) (off' := ro162 + i * 2) (i := ((i : Nat) : Int)) hA163 (by kernel_rfl) (by kernel_rfl) (by omega) (by omega) (by omega)) (d := (some 102)) (by kernel_rfl) rfl ?_
          refine Dr.takes (fuel' := 11) (is' := [15, 14, 13, 12, 11, 10, 9, 8, 7, 6, 5, 4, 3, 2, 1, 0]) [15] [(3, (ptr b7)), (9, (i64 ((i : Nat) : Int))), (85, (Value.bool true)), (95, (Value.bool false)), (98, (Value.bool true)), (103, (Value.pointer (some ⟨rb161, ro162 + i * 2, none⟩)))] (by kernel_rfl) rfl (by kernel_rfl) ?_
          refine Dr.take (i := 16) (v := (Value.string (str x.name))) (by kernel_rfl) (by kernel_rfl) (fun wz hS => Runs.load (t := 9) (a := ⟨rb161, ro162 + i * 2, none⟩) (by kernel_rfl) (RdT.ldf (f := RowM.cells) (x := x) (o := 0) RowM.two (Rd.keep0 (by decide) hR (K156.trans hS (fun _ _ h => h) (fun _ _ h => h))) (by kernel_rfl) hA163 hx rfl)) (d := (some 104)) (by kernel_rfl) rfl ?_
          refine Dr.takes (fuel' := 9) (is' := [17, 16, 15, 14, 13, 12, 11, 10, 9, 8, 7, 6, 5, 4, 3, 2, 1, 0]) [17] [(3, (ptr b7)), (9, (i64 ((i : Nat) : Int))), (85, (Value.bool true)), (95, (Value.bool false)), (98, (Value.bool true)), (104, (Value.string (str x.name))), (105, (Value.pointer (some ⟨b7, 2, none⟩)))] (by kernel_rfl) rfl (by kernel_rfl) ?_
          refine Dr.take (i := 18) (v := (Value.slice A r.rows.length c)) (by kernel_rfl) (by kernel_rfl) (fun wz hS => Runs.load (t := 28) (a := ⟨b7, 2, none⟩) (by kernel_rfl) ((H158.keep hS (fun h => h)).loads (by kernel_rfl))) (d := (some 106)) (by kernel_rfl) rfl ?_
          refine Dr.takes (fuel' := 6) (is' := [20, 19, 18, 17, 16, 15, 14, 13, 12, 11, 10, 9, 8, 7, 6, 5, 4, 3, 2, 1, 0]) [19, 20] [(3, (ptr b7)), (9, (i64 ((i : Nat) : Int))), (85, (Value.bool true)), (95, (Value.bool false)), (98, (Value.bool true)), (104, (Value.string (str x.name))), (106, (Value.slice A r.rows.length c)), (108, (i64 (IntKind.i64.wrap (((i : Nat) : Int) - 1))))] (by kernel_rfl) rfl (by kernel_rfl) ?_
          have e171 : IntKind.i64.wrap (((i : Nat) : Int) - 1) = ((i : Nat) : Int) - 1 := wrap_i64 (by omega) (by omega)
          rw [e171]
          refine Dr.take (i := 21) (v := (Value.pointer (some ⟨rb161, ro162 + ((((i : Nat) : Int) - 1).toNat) * 2, none⟩))) (by kernel_rfl) (by kernel_rfl) (fun wz hS => Runs.ixSliceE (k := IntKind.i64) (t := 28) (len := r.rows.length) (cap := c) (s := 2) (off' := ro162 + ((((i : Nat) : Int) - 1).toNat) * 2) (i := ((i : Nat) : Int) - 1) hA163 (by kernel_rfl) (by kernel_rfl) (by omega) (by omega) (by omega)) (d := (some 109)) (by kernel_rfl) rfl ?_
          refine Dr.takes (fuel' := 4) (is' := [22, 21, 20, 19, 18, 17, 16, 15, 14, 13, 12, 11, 10, 9, 8, 7, 6, 5, 4, 3, 2, 1, 0]) [22] [(3, (ptr b7)), (9, (i64 ((i : Nat) : Int))), (85, (Value.bool true)), (95, (Value.bool false)), (98, (Value.bool true)), (104, (Value.string (str x.name))), (110, (Value.pointer (some ⟨rb161, ro162 + ((((i : Nat) : Int) - 1).toNat) * 2, none⟩)))] (by kernel_rfl) rfl (by kernel_rfl) ?_
          refine Dr.take (i := 23) (v := (Value.string (str y.name))) (by kernel_rfl) (by kernel_rfl) (fun wz hS => Runs.load (t := 9) (a := ⟨rb161, ro162 + ((((i : Nat) : Int) - 1).toNat) * 2, none⟩) (by kernel_rfl) (RdT.ldf (f := RowM.cells) (x := y) (o := 0) RowM.two (Rd.keep0 (by decide) hR (K156.trans hS (fun _ _ h => h) (fun _ _ h => h))) (by kernel_rfl) hA163 hy2 rfl)) (d := (some 111)) (by kernel_rfl) rfl ?_
          refine Dr.take (i := 24) (v := (Value.bool (decide (x.name < y.name) || x.name == y.name))) (by kernel_rfl) (by kernel_rfl) (fun wz hS => Runs.strleq (t := 9) (by kernel_rfl)) (d := (some 112)) (by kernel_rfl) rfl ?_
          refine Dr.takes (fuel' := 0) (is' := [26, 25, 24, 23, 22, 21, 20, 19, 18, 17, 16, 15, 14, 13, 12, 11, 10, 9, 8, 7, 6, 5, 4, 3, 2, 1, 0]) [25, 26] [(3, (ptr b7)), (9, (i64 ((i : Nat) : Int))), (85, (Value.bool true)), (114, (Value.bool (decide (x.name < y.name) || x.name == y.name)))] (by kernel_rfl) rfl (by kernel_rfl) ?_
          refine Dr.done (by kernel_rfl) ?_
          refine q_cond (o := .tmp 114) (b := (decide (x.name < y.name) || x.name == y.name)) (by kernel_rfl) rfl (fun h172 => ?_) (fun h172 => ?_)
          ·rw [h172]
           have p173 : (decide (x.name < y.name) || x.name == y.name) = true := h172
           have hlt := nlt_of_le h172
           refine qs ?_
           refine qg ?_
           refine og 1 [(3, (ptr b7)), (4, (Value.bool false)), (9, (i64 ((i : Nat) : Int))), (85, (Value.bool true)), (114, (Value.bool true))] 1 ?_
           refine od ?_
           refine q_ret (by kernel_rfl) ?_
           refine ⟨(Value.bool false), retv_tmp rfl rfl, ?_⟩
           exact ⟨_, rfl, ⟨fun h => (by cases h), fun h => by rw [fits_ref (by omega) hend (by omega)] at h; have h2 := asc_at h.2.2 hx hy; exfalso; first | omega | exact hlt (h2.2 (by omega))⟩, K156⟩
          ·rw [h172]
           have p174 : (decide (x.name < y.name) || x.name == y.name) = false := h172
           have hlt := lt_of_nle h172
           refine q_skip (by kernel_rfl) ?_
           refine qg ?_
           refine og 2 [(3, (ptr b7)), (9, (i64 ((i : Nat) : Int))), (85, (Value.bool true)), (87, (i64 (IntKind.i64.wrap (((i : Nat) : Int) + 1)))), (114, (Value.bool false))] 2 ?_
           have e175 : IntKind.i64.wrap (((i : Nat) : Int) + 1) = ((i + 1 : Nat) : Int) := by rw [wrap_i64 (by omega) (by omega)]; omega
           rw [e175]
           clear e175
           refine og 1 [(3, (ptr b7)), (9, (i64 ((i + 1 : Nat) : Int))), (85, (Value.bool true)), (114, (Value.bool false))] 3 ?_
           refine Ops.keep (R := [(3, (ptr b7)), (9, (i64 ((i + 1 : Nat) : Int)))]) (by kernel_rfl) ?_
           refine od ?_
           exact ⟨i + 1, ⟨rfl, (by omega), (adj_step hx hy hAdj (by omega) (fun h0 => by first | exact hlt | (exfalso; omega))), K156, H157, H158⟩, (show r.rows.length - (i + 1) < r.rows.length - i from by omega)⟩
         ·rw [h169]
          have p176 : ¬ (((i : Nat) : Int) > 0) := of_decide_eq_false h169
          refine Dr.takes (fuel' := 0) (is' := [26, 25, 24, 23, 22, 21, 20, 19, 18, 17, 16, 15, 14, 13, 12, 11, 10, 9, 8, 7, 6, 5, 4, 3, 2, 1, 0]) [11, 12, 13, 14, 15, 16, 17, 18, 19, 20, 21, 22, 23, 24, 25, 26] [(3, (ptr b7)), (9, (i64 ((i : Nat) : Int))), (85, (Value.bool true)), (114, (Value.bool false))] (by kernel_rfl) rfl (by kernel_rfl) ?_
          refine Dr.done (by kernel_rfl) ?_
          refine q_else (o := .tmp 114) (by kernel_rfl) rfl ?_
          refine q_skip (by kernel_rfl) ?_
          refine qg ?_
          refine og 2 [(3, (ptr b7)), (9, (i64 ((i : Nat) : Int))), (85, (Value.bool true)), (87, (i64 (IntKind.i64.wrap (((i : Nat) : Int) + 1)))), (114, (Value.bool false))] 2 ?_
          have e177 : IntKind.i64.wrap (((i : Nat) : Int) + 1) = ((i + 1 : Nat) : Int) := by rw [wrap_i64 (by omega) (by omega)]; omega
          rw [e177]
          clear e177
          refine og 1 [(3, (ptr b7)), (9, (i64 ((i + 1 : Nat) : Int))), (85, (Value.bool true)), (114, (Value.bool false))] 3 ?_
          refine Ops.keep (R := [(3, (ptr b7)), (9, (i64 ((i + 1 : Nat) : Int)))]) (by kernel_rfl) ?_
          refine od ?_
          exact ⟨i + 1, ⟨rfl, (by omega), (adj_step hx hy hAdj (by omega) (fun h0 => by first | exact hlt | (exfalso; omega))), K156, H157, H158⟩, (show r.rows.length - (i + 1) < r.rows.length - i from by omega)⟩
       ·rw [h159]
        have p178 : ¬ (((i : Nat) : Int) < ((r.rows.length : Nat) : Int)) := of_decide_eq_false h159
        refine q_exit (id := 2) (by kernel_rfl) ?_
        refine qs ?_
        refine qg ?_
        refine og 1 [(4, (Value.bool true))] 1 ?_
        refine od ?_
        refine q_ret (by kernel_rfl) ?_
        refine ⟨(Value.bool true), retv_tmp rfl rfl, ?_⟩
        exact ⟨_, rfl, (by rw [fits_ref (by omega) hend (by omega)]; have hA : AscP r.rows := fun j hj => hAdj j (by omega); exact ⟨fun _ => ⟨by omega, by omega, hA⟩, fun _ => rfl⟩), K156⟩
end Go.Proofs.YtnfeemhpoaflfaaGreatDoor
namespace Go.Proofs.YtnfeemhpoaflfaaGreatDoor
open Go.Q Go.RowKit

set_option maxHeartbeats 4000000 in
theorem Fitsl_calls (w : World) (OAa : Option Addr) (oca : Nat) (la : List Opm) (o : Opm) (r : ReplyM) (RA : Option Addr) (rc : Nat) (tb : Nat) (hLa : RdT w 7 Opm.cells (.slice OAa la.length oca) la) (hLoa : ∀ x ∈ la, x.Ok) (hRr : RdR w (.slice RA r.rows.length rc) r.rows) (HT : Tab Tryz.prog w tb) : Calls Tryz.prog 8 ⟨[(Value.slice OAa la.length oca), (agg [(i64 o.kind), (Value.string (str o.frm)), (Value.string (str o.to)), (i64 o.amount), (Value.string (str o.key)), (i64 o.slot), (i64 o.shard)]), (agg [(i64 r.why), (i64 r.amount), (Value.slice RA r.rows.length rc)])]⟩ w (fun e w' => e = .returned (.bool true) ∧ Keeps none_ w w') := by
 have hcapa := RdT.len Opm.seven (by decide) hLa
 have HTl := HT.lt
 have K0 : Keeps none_ w w := Keeps.refl w
 refine q_calls Tryz.func8 (by kernel_rfl) (by kernel_rfl) ?_
 refine qs ?_
 refine qg ?_
 refine Ops.new (o := rowL [(i64 o.kind), (Value.string (str o.frm)), (Value.string (str o.to)), (i64 o.amount), (Value.string (str o.key)), (i64 o.slot), (i64 o.shard)] 24) (V := fun b => (ptr b)) (by kernel_rfl) (d := (some 4)) (by kernel_rfl) (fun b => rfl) (fun b1 w2 hb3 H4 K5 hs6 => ?_)
 have lb1tb : tb < b1 := by have := HT.lt; omega
 have nb1 : w.heap.size ≤ b1 := by have := K0.size; omega
 replace K0 := K0.t0 K5
 replace HT := HT.keep K5 (fun h => h)
 clear K5 hs6
 refine Ops.new (o := rowL [(i64 r.why), (i64 r.amount), (Value.slice RA r.rows.length rc)] 30) (V := fun b => (ptr b)) (by kernel_rfl) (d := (some 5)) (by kernel_rfl) (fun b => rfl) (fun b7 w8 hb9 H10 K11 hs12 => ?_)
 have lb7tb : tb < b7 := by have := HT.lt; omega
 have lb7b1 : b1 < b7 := by have := H4.lt; omega
 have nb7 : w.heap.size ≤ b7 := by have := K0.size; omega
 replace K0 := K0.t0 K11
 replace HT := HT.keep K11 (fun h => h)
 replace H4 := H4.keep K11 (fun h => h)
 clear K11 hs12
 refine og 1 [(0, (Value.slice OAa la.length oca)), (4, (ptr b1)), (5, (ptr b7)), (6, (Value.bool false))] 3 ?_
 refine od ?_
 refine qs ?_
 refine qg ?_
 refine Ops.call (by kernel_rfl) (d := (some 14)) (by kernel_rfl) (New_calls _) ?_
 rintro _ w16 ⟨b13, mb14, kb15, rfl, K17, H18, Hm19, Hk20, hb21, hb22, hb23, hb24, hb25, hb26⟩
 have lb13tb : tb < b13 := by have := HT.lt; omega
 have lmb14tb : tb < mb14 := by have := HT.lt; omega
 have lkb15tb : tb < kb15 := by have := HT.lt; omega
 have lb13b1 : b1 < b13 := by have := H4.lt; omega
 have lmb14b1 : b1 < mb14 := by have := H4.lt; omega
 have lkb15b1 : b1 < kb15 := by have := H4.lt; omega
 have lb13b7 : b7 < b13 := by have := H10.lt; omega
 have lmb14b7 : b7 < mb14 := by have := H10.lt; omega
 have lkb15b7 : b7 < kb15 := by have := H10.lt; omega
 have nb13 : w.heap.size ≤ b13 := by have := K0.size; omega
 have nmb14 : w.heap.size ≤ mb14 := by have := K0.size; omega
 have nkb15 : w.heap.size ≤ kb15 := by have := K0.size; omega
 refine ⟨_, _, rfl, rfl, ?_⟩
 replace K0 := K0.t0 K17
 replace HT := HT.keep K17 (fun h => h)
 replace H4 := H4.keep K17 (fun h => h)
 replace H10 := H10.keep K17 (fun h => h)
 clear K17
 refine og 1 [(0, (Value.slice OAa la.length oca)), (4, (ptr b1)), (5, (ptr b7)), (6, (Value.bool false)), (7, (ptr b13))] 2 ?_
 refine od ?_
 refine qs ?_
 refine qs ?_
 refine qg ?_
 refine og 2 [(0, (Value.slice OAa la.length oca)), (4, (ptr b1)), (5, (ptr b7)), (6, (Value.bool false)), (7, (ptr b13)), (16, (Value.bool false))] 2 ?_
 refine od ?_
 refine q_else (o := .tmp 16) (by kernel_rfl) rfl ?_
 refine q_skip (by kernel_rfl) ?_
 refine qs ?_
 refine qs ?_
 refine qg ?_
 refine og 1 [(0, (Value.slice OAa la.length oca)), (4, (ptr b1)), (5, (ptr b7)), (6, (Value.bool false)), (7, (ptr b13)), (8, (i64 0))] 1 ?_
 refine od ?_
 refine q_block (id := 0) (by kernel_rfl) ?_
 refine q_keep (R := [(0, (Value.slice OAa la.length oca)), (4, (ptr b1)), (5, (ptr b7)), (7, (ptr b13)), (8, (i64 0))]) (by kernel_rfl) ?_
 refine q_loop (fun (gs : Nat × (List (List UInt8 × Int)) × (List RowM) × (List KeptM)) L (wx : World) => match gs with | (ia, mma, SSa, KKa) => L = [(0, (Value.slice OAa la.length oca)), (4, (ptr b1)), (5, (ptr b7)), (7, (ptr b13)), (8, (i64 ((ia : Nat) : Int)))] ∧ ia ≤ 60 ∧ LBook mma SSa KKa ∧ KKa.length ≤ ia + 0 ∧ MayK KKa ∧ Keeps none_ w wx ∧ Tab Tryz.prog wx tb ∧ Has wx b1 (rowL [(i64 o.kind), (Value.string (str o.frm)), (Value.string (str o.to)), (i64 o.amount), (Value.string (str o.key)), (i64 o.slot), (i64 o.shard)] 24) ∧ Has wx b7 (rowL [(i64 r.why), (i64 r.amount), (Value.slice RA r.rows.length rc)] 30) ∧ Has wx b13 (rowL [(Value.map (some mb14)), (Value.map (some kb15))] 54) ∧ HasMap wx mb14 kstr ki64 mma ∧ HasMap wx kb15 kpair keptv (KKa.map KeptM.kv)) (fun (gs : Nat × (List (List UInt8 × Int)) × (List RowM) × (List KeptM)) => match gs with | (ia, mma, SSa, KKa) => 60 - ia) (0, [], ([] : List RowM), ([] : List KeptM)) (by kernel_rfl) ⟨rfl, Nat.zero_le _, LBook.nil, (by first | omega | (simp; done) | (show 0 ≤ _; omega)), MayK.nil, K0, HT, H4, H10, H18, Hm19, Hk20⟩ ?_
 clear HT H4 H10 H18 Hm19 Hk20 K0
 rintro ⟨ia, mma, SSa, KKa⟩ _ w27 ⟨rfl, hia, hBma, hkla, hmay, K28, H29, H30, H31, H32, H33, H34⟩
 have hlea := hBma.ledg.le
 refine qs ?_
 refine qs ?_
 refine qg ?_
 refine og 5 [(0, (Value.slice OAa la.length oca)), (4, (ptr b1)), (5, (ptr b7)), (7, (ptr b13)), (8, (i64 ((ia : Nat) : Int))), (21, (Value.bool (decide (((ia : Nat) : Int) < ((la.length : Nat) : Int)))))] 5 ?_
 refine Ops.split (decide (((ia : Nat) : Int) < ((la.length : Nat) : Int))) (fun h35 => ?_) (fun h35 => ?_)
 ·rw [h35]
  have p36 : ((ia : Nat) : Int) < ((la.length : Nat) : Int) := of_decide_eq_true h35
  obtain ⟨xa, hxa⟩ : ∃ y, la[ia]? = some y := ⟨_, List.getElem?_eq_getElem (by omega)⟩
  have hxao := hLoa xa (List.mem_of_getElem? hxa)
  have hxa1 := hxao.amount
  obtain ⟨rb37, ro38, hA39⟩ := Rd.addr (Rd.keep0 (by decide) hLa K28) (by omega)
  refine og 3 [(0, (Value.slice OAa la.length oca)), (4, (ptr b1)), (5, (ptr b7)), (7, (ptr b13)), (8, (i64 ((ia : Nat) : Int))), (24, (Value.bool (decide (((ia : Nat) : Int) < 60))))] 8 ?_
  refine od ?_
  refine q_cond (o := .tmp 24) (b := (decide (((ia : Nat) : Int) < 60))) (by kernel_rfl) rfl (fun h40 => ?_) (fun h40 => ?_)
  ·rw [h40]
   have p41 : ((ia : Nat) : Int) < 60 := of_decide_eq_true h40
   refine q_skip (by kernel_rfl) ?_
   refine qs ?_
   refine q_block (id := 1) (by kernel_rfl) ?_
   refine qs ?_
   refine qg ?_
   refine og 1 [(0, (Value.slice OAa la.length oca)), (4, (ptr b1)), (5, (ptr b7)), (7, (ptr b13)), (8, (i64 ((ia : Nat) : Int))), (24, (Value.bool true)), (28, (ptr b13))] 1 ?_
   refine Ops.call (by kernel_rfl) (d := (some 29)) (by kernel_rfl) (Sum_calls _ b13 mb14 kb15 mma SSa KKa H32 H33 H34 (by omega) hBma) ?_
   rintro _ w43 ⟨rfl, K42⟩
   refine ⟨_, _, rfl, rfl, ?_⟩
   replace K28 := K28.trans K42 (U := none_) (fun i h1 h2 => h2) (fun i h1 h2 => by exact h2)
   replace H29 := H29.keep K42 (fun h => h)
   replace H30 := H30.keep K42 (fun h => h)
   replace H31 := H31.keep K42 (fun h => h)
   replace H32 := H32.keep K42 (fun h => h)
   replace H33 := H33.keep K42 (fun h => h)
   replace H34 := H34.keep K42 (fun h => h)
   clear K42
   refine og 5 [(0, (Value.slice OAa la.length oca)), (4, (ptr b1)), (5, (ptr b7)), (7, (ptr b13)), (8, (i64 ((ia : Nat) : Int))), (9, (i64 ((sumE SSa).1))), (10, (i64 ((sumE SSa).2))), (24, (Value.bool true))] 7 ?_
   refine od ?_
   refine qs ?_
   refine qg ?_
   refine og 3 [(0, (Value.slice OAa la.length oca)), (4, (ptr b1)), (5, (ptr b7)), (7, (ptr b13)), (8, (i64 ((ia : Nat) : Int))), (9, (i64 ((sumE SSa).1))), (10, (i64 ((sumE SSa).2))), (24, (Value.bool true)), (32, (ptr b13)), (33, (Value.slice OAa la.length oca)), (34, (i64 ((ia : Nat) : Int)))] 3 ?_
   refine Ops.go (by kernel_rfl) (Runs.ixSliceE (k := IntKind.i64) (t := 22) (len := la.length) (cap := oca) (s := 7) (off' := ro38 + ia * 7) (i := ((ia : Nat) : Int)) hA39 (by kernel_rfl) (by kernel_rfl) (by omega) (by omega) (by omega)) (d := (some 35)) (by kernel_rfl) rfl ?_
   refine Ops.go (v := (agg [(i64 xa.kind), (Value.string (str xa.frm)), (Value.string (str xa.to)), (i64 xa.amount), (Value.string (str xa.key)), (i64 xa.slot), (i64 xa.shard)])) (by kernel_rfl) (Runs.load (t := 24) (a := ⟨rb37, ro38 + ia * 7, none⟩) (by kernel_rfl) (RdT.ld (f := Opm.cells) (x := xa) Opm.seven (Rd.keep0 (by decide) hLa K28) (by kernel_rfl) (by kernel_rfl) hA39 hxa)) (d := (some 36)) (by kernel_rfl) rfl ?_
   refine Ops.call (by kernel_rfl) (d := (some 37)) (by kernel_rfl) (Do_calls _ b13 mb14 kb15 mma SSa KKa xa H32 H33 H34 (by omega) hBma (by first | omega | decide) (by first | omega | decide)) ?_
   rintro _ w47 ⟨m44, A45, c46, rfl, K48, Hm49, Hk50, hB51, hO52⟩
   have ob56 : ∀ i, ((Value.slice A45 ((doR SSa KKa xa).rows.length) c46)).ownBlock = some i → i ≠ tb := fun i hi => by have := (World.ownsRow.lt hO52 i hi).1; have := H29.lt; omega
   have ob57 : ∀ i, ((Value.slice A45 ((doR SSa KKa xa).rows.length) c46)).ownBlock = some i → i ≠ b1 := fun i hi => by have := (World.ownsRow.lt hO52 i hi).1; have := H30.lt; omega
   have ob58 : ∀ i, ((Value.slice A45 ((doR SSa KKa xa).rows.length) c46)).ownBlock = some i → i ≠ b7 := fun i hi => by have := (World.ownsRow.lt hO52 i hi).1; have := H31.lt; omega
   have ob59 : ∀ i, ((Value.slice A45 ((doR SSa KKa xa).rows.length) c46)).ownBlock = some i → i ≠ b13 := fun i hi => by have := (World.ownsRow.lt hO52 i hi).1; have := H32.lt; omega
   have ob60 : ∀ i, ((Value.slice A45 ((doR SSa KKa xa).rows.length) c46)).ownBlock = some i → i ≠ mb14 := fun i hi => by have := (World.ownsRow.lt hO52 i hi).1; have := H33.lt; omega
   have ob61 : ∀ i, ((Value.slice A45 ((doR SSa KKa xa).rows.length) c46)).ownBlock = some i → i ≠ kb15 := fun i hi => by have := (World.ownsRow.lt hO52 i hi).1; have := H34.lt; omega
   have O53 := own_base hO52 K28.size
   clear hO52
   have hl54 := hB51.ledg.le
   have hl55 := doK_len SSa KKa xa
   refine ⟨_, _, rfl, rfl, ?_⟩
   replace K28 := K28.trans K48 (U := none_) (fun i h1 h2 => h2) (fun i h1 h2 => by have h2 : i = mb14 ∨ i = kb15 := h2; exfalso; omega)
   replace H29 := H29.keep K48 (by intro h; change tb = mb14 ∨ tb = kb15 at h; omega)
   replace H30 := H30.keep K48 (by intro h; change b1 = mb14 ∨ b1 = kb15 at h; omega)
   replace H31 := H31.keep K48 (by intro h; change b7 = mb14 ∨ b7 = kb15 at h; omega)
   replace H32 := H32.keep K48 (by intro h; change b13 = mb14 ∨ b13 = kb15 at h; omega)
   clear K48
   refine Ops.new (o := rowL [(i64 0), (i64 0), (Value.slice none 0 0)] 30) (V := fun b => (ptr b)) (by kernel_rfl) (d := (some 11)) (by kernel_rfl) (fun b => rfl) (fun b62 w63 hb64 H65 K66 hs67 => ?_)
   have lb62tb : tb < b62 := by have := H29.lt; omega
   have lb62b1 : b1 < b62 := by have := H30.lt; omega
   have lb62b7 : b7 < b62 := by have := H31.lt; omega
   have lb62b13 : b13 < b62 := by have := H32.lt; omega
   have lb62mb14 : mb14 < b62 := by have := Hm49.lt; omega
   have lb62kb15 : kb15 < b62 := by have := Hk50.lt; omega
   have nb62 : w.heap.size ≤ b62 := by have := K28.size; omega
   have ob68 : ∀ i, ((Value.slice A45 ((doR SSa KKa xa).rows.length) c46)).ownBlock = some i → i < b62 := fun i hi => by have := (World.ownsRow.lt O53 i hi).2; omega
   replace K28 := K28.trans K66 (U := none_) (fun i h1 h2 => h2) (fun i h1 h2 => by exact h2)
   replace H29 := H29.keep K66 (fun h => h)
   replace H30 := H30.keep K66 (fun h => h)
   replace H31 := H31.keep K66 (fun h => h)
   replace H32 := H32.keep K66 (fun h => h)
   replace Hm49 := Hm49.keep K66 (fun h => h)
   replace Hk50 := Hk50.keep K66 (fun h => h)
   replace O53 := own_keep0 O53 K66
   clear K66 hs67
   refine Ops.put (t := 30) (b := b62) (off := 0) (v := (agg [(i64 ((doR SSa KKa xa).why)), (i64 ((doR SSa KKa xa).amount)), (Value.slice A45 ((doR SSa KKa xa).rows.length) c46)])) (ys := [(i64 ((doR SSa KKa xa).why)), (i64 ((doR SSa KKa xa).amount)), (Value.slice A45 ((doR SSa KKa xa).rows.length) c46)]) (by kernel_rfl) (by kernel_rfl) H65 (by kernel_rfl) (d := none) (by kernel_rfl) rfl (fun w69 H70 K71 => ?_)
   clear H65
   replace K28 := K28.trans K71 (U := none_) (fun i h1 h2 => h2) (fun i h1 h2 => by have h2 : i = b62 := h2; exfalso; omega)
   replace H29 := H29.keep K71 (by intro h; change tb = b62 at h; omega)
   replace H30 := H30.keep K71 (by intro h; change b1 = b62 at h; omega)
   replace H31 := H31.keep K71 (by intro h; change b7 = b62 at h; omega)
   replace H32 := H32.keep K71 (by intro h; change b13 = b62 at h; omega)
   replace Hm49 := Hm49.keep K71 (by intro h; change mb14 = b62 at h; omega)
   replace Hk50 := Hk50.keep K71 (by intro h; change kb15 = b62 at h; omega)
   replace O53 := own_keep O53 K71 (fun i hi hs => by have hs : i = b62 := hs; have := ob68 i hi; omega)
   clear K71
   refine od ?_
   refine qs ?_
   refine qg ?_
   refine og 1 [(0, (Value.slice OAa la.length oca)), (4, (ptr b1)), (5, (ptr b7)), (7, (ptr b13)), (8, (i64 ((ia : Nat) : Int))), (9, (i64 ((sumE SSa).1))), (10, (i64 ((sumE SSa).2))), (11, (ptr b62)), (24, (Value.bool true)), (39, (ptr b13))] 1 ?_
   refine Ops.call (by kernel_rfl) (d := (some 40)) (by kernel_rfl) (Sum_calls _ b13 mb14 kb15 m44 (doS SSa KKa xa) (doK SSa KKa xa) H32 Hm49 Hk50 (by omega) hB51) ?_
   rintro _ w73 ⟨rfl, K72⟩
   refine ⟨_, _, rfl, rfl, ?_⟩
   replace K28 := K28.trans K72 (U := none_) (fun i h1 h2 => h2) (fun i h1 h2 => by exact h2)
   replace H29 := H29.keep K72 (fun h => h)
   replace H30 := H30.keep K72 (fun h => h)
   replace H31 := H31.keep K72 (fun h => h)
   replace H32 := H32.keep K72 (fun h => h)
   replace Hm49 := Hm49.keep K72 (fun h => h)
   replace Hk50 := Hk50.keep K72 (fun h => h)
   replace H70 := H70.keep K72 (fun h => h)
   replace O53 := own_keep0 O53 K72
   clear K72
   refine og 5 [(0, (Value.slice OAa la.length oca)), (4, (ptr b1)), (5, (ptr b7)), (7, (ptr b13)), (8, (i64 ((ia : Nat) : Int))), (9, (i64 ((sumE SSa).1))), (10, (i64 ((sumE SSa).2))), (11, (ptr b62)), (12, (i64 ((sumE (doS SSa KKa xa)).1))), (13, (i64 ((sumE (doS SSa KKa xa)).2))), (24, (Value.bool true))] 7 ?_
   refine od ?_
   refine qs ?_
   refine q_draw (fun wz => Keeps none_ w73 wz) 22 (by kernel_rfl) (by kernel_rfl) (by kernel_rfl) (fun w74 K75 _ _ => ⟨K75, ?_⟩)
   replace K28 := K28.trans K75 (U := none_) (fun i h1 h2 => h2) (fun i h1 h2 => by exact h2)
   replace H29 := H29.keep K75 (fun h => h)
   replace H30 := H30.keep K75 (fun h => h)
   replace H31 := H31.keep K75 (fun h => h)
   replace H32 := H32.keep K75 (fun h => h)
   replace Hm49 := Hm49.keep K75 (fun h => h)
   replace Hk50 := Hk50.keep K75 (fun h => h)
   replace H70 := H70.keep K75 (fun h => h)
   replace O53 := own_keep0 O53 K75
   refine Dr.strong (S' := (fun wz => Keeps none_ w74 wz)) (Keeps.refl w74) (fun wz hx => K75.trans hx (fun i _ h => h) (fun _ _ h => h)) ?_
   clear K75
   refine Dr.takes (fuel' := 20) (is' := [1, 0]) [0, 1] [(0, (Value.slice OAa la.length oca)), (4, (ptr b1)), (5, (ptr b7)), (7, (ptr b13)), (8, (i64 ((ia : Nat) : Int))), (9, (i64 ((sumE SSa).1))), (10, (i64 ((sumE SSa).2))), (11, (ptr b62)), (12, (i64 ((sumE (doS SSa KKa xa)).1))), (13, (i64 ((sumE (doS SSa KKa xa)).2))), (24, (Value.bool true)), (43, (Value.slice OAa la.length oca)), (44, (i64 ((ia : Nat) : Int)))] (by kernel_rfl) rfl (by kernel_rfl) ?_
   refine Dr.take (i := 2) (v := (Value.pointer (some ⟨rb37, ro38 + ia * 7, none⟩))) (by kernel_rfl) (by kernel_rfl) (fun wz hS => Runs.ixSliceE (k := IntKind.i64) (t := 22) (len := la.length) (cap := oca) (s := 7) (off' := ro38 + ia * 7) (i := ((ia : Nat) : Int)) hA39 (by kernel_rfl) (by kernel_rfl) (by omega) (by omega) (by omega)) (d := (some 45)) (by kernel_rfl) rfl ?_
   refine Dr.take (i := 3) (v := (agg [(i64 xa.kind), (Value.string (str xa.frm)), (Value.string (str xa.to)), (i64 xa.amount), (Value.string (str xa.key)), (i64 xa.slot), (i64 xa.shard)])) (by kernel_rfl) (by kernel_rfl) (fun wz hS => Runs.load (t := 24) (a := ⟨rb37, ro38 + ia * 7, none⟩) (by kernel_rfl) (RdT.ld (f := Opm.cells) (x := xa) Opm.seven (Rd.keep0 (by decide) hLa (K28.trans hS (fun _ _ h => h) (fun _ _ h => h))) (by kernel_rfl) (by kernel_rfl) hA39 hxa)) (d := (some 46)) (by kernel_rfl) rfl ?_
   refine Dr.take (i := 4) (v := (agg [(i64 ((doR SSa KKa xa).why)), (i64 ((doR SSa KKa xa).amount)), (Value.slice A45 ((doR SSa KKa xa).rows.length) c46)])) (by kernel_rfl) (by kernel_rfl) (fun wz hS => Runs.load (t := 30) (a := ⟨b62, 0, none⟩) (by kernel_rfl) ((H70.keep hS (fun h => h)).loads (by kernel_rfl))) (d := (some 47)) (by kernel_rfl) rfl ?_
   refine Dr.call (i := 5) (by kernel_rfl) (by kernel_rfl) (d := (some 48)) (by kernel_rfl) (fun _ => Fits_calls _ xa (doR SSa KKa xa) A45 c46 (OwnT.rd O53)) ?_
   rintro _ w79 ⟨t76, rfl, ht77, K78⟩
   replace K28 := K28.trans K78 (U := none_) (fun i h1 h2 => h2) (fun i h1 h2 => by exact h2)
   replace H29 := H29.keep K78 (fun h => h)
   replace H30 := H30.keep K78 (fun h => h)
   replace H31 := H31.keep K78 (fun h => h)
   replace H32 := H32.keep K78 (fun h => h)
   replace Hm49 := Hm49.keep K78 (fun h => h)
   replace Hk50 := Hk50.keep K78 (fun h => h)
   replace H70 := H70.keep K78 (fun h => h)
   replace O53 := own_keep0 O53 K78
   refine ⟨_, _, rfl, rfl, K78, ?_⟩
   refine Dr.strong (S' := (fun wz => Keeps none_ w79 wz)) (Keeps.refl w79) (fun wz hx => K78.trans hx (fun i _ h => h) (fun _ _ h => h)) ?_
   clear K78
   refine Dr.takes (fuel' := 14) (is' := [7, 6, 5, 4, 3, 2, 1, 0]) [6, 7] [(0, (Value.slice OAa la.length oca)), (4, (ptr b1)), (5, (ptr b7)), (7, (ptr b13)), (8, (i64 ((ia : Nat) : Int))), (9, (i64 ((sumE SSa).1))), (10, (i64 ((sumE SSa).2))), (11, (ptr b62)), (12, (i64 ((sumE (doS SSa KKa xa)).1))), (13, (i64 ((sumE (doS SSa KKa xa)).2))), (24, (Value.bool true)), (50, (Value.bool (!t76)))] (by kernel_rfl) rfl (by kernel_rfl) ?_
   have h80 : (!t76) = false := by rw [show t76 = true from ht77.2 (fits_do hBma.ledg hmay)]; rfl
   rw [h80]
   refine Dr.takes (fuel' := 13) (is' := [8, 7, 6, 5, 4, 3, 2, 1, 0]) [8] [(0, (Value.slice OAa la.length oca)), (4, (ptr b1)), (5, (ptr b7)), (7, (ptr b13)), (8, (i64 ((ia : Nat) : Int))), (9, (i64 ((sumE SSa).1))), (10, (i64 ((sumE SSa).2))), (11, (ptr b62)), (12, (i64 ((sumE (doS SSa KKa xa)).1))), (13, (i64 ((sumE (doS SSa KKa xa)).2))), (24, (Value.bool true)), (50, (Value.bool false)), (51, (ptr b62))] (by kernel_rfl) rfl (by kernel_rfl) ?_
   refine Dr.take (i := 9) (v := (i64 ((doR SSa KKa xa).why))) (by kernel_rfl) (by kernel_rfl) (fun wz hS => Runs.load (t := 27) (a := ⟨b62, 0, none⟩) (by kernel_rfl) ((H70.keep hS (fun h => h)).loads (by kernel_rfl))) (d := (some 52)) (by kernel_rfl) rfl ?_
   refine Dr.takes (fuel' := 10) (is' := [11, 10, 9, 8, 7, 6, 5, 4, 3, 2, 1, 0]) [10, 11] [(0, (Value.slice OAa la.length oca)), (4, (ptr b1)), (5, (ptr b7)), (7, (ptr b13)), (8, (i64 ((ia : Nat) : Int))), (9, (i64 ((sumE SSa).1))), (10, (i64 ((sumE SSa).2))), (11, (ptr b62)), (12, (i64 ((sumE (doS SSa KKa xa)).1))), (13, (i64 ((sumE (doS SSa KKa xa)).2))), (24, (Value.bool true)), (50, (Value.bool false)), (54, (Value.bool (((doR SSa KKa xa).why) != 0)))] (by kernel_rfl) rfl (by kernel_rfl) ?_
   refine Dr.split (((doR SSa KKa xa).why) != 0) (fun h81 => ?_) (fun h81 => ?_)
   ·rw [h81]
    have p82 : ¬ ((doR SSa KKa xa).why = 0) := of_bne_t h81
    refine Dr.takes (fuel' := 6) (is' := [15, 14, 13, 12, 11, 10, 9, 8, 7, 6, 5, 4, 3, 2, 1, 0]) [12, 13, 14, 15] [(0, (Value.slice OAa la.length oca)), (4, (ptr b1)), (5, (ptr b7)), (7, (ptr b13)), (8, (i64 ((ia : Nat) : Int))), (9, (i64 ((sumE SSa).1))), (10, (i64 ((sumE SSa).2))), (11, (ptr b62)), (12, (i64 ((sumE (doS SSa KKa xa)).1))), (13, (i64 ((sumE (doS SSa KKa xa)).2))), (24, (Value.bool true)), (50, (Value.bool false)), (54, (Value.bool true)), (58, (Value.bool (((sumE SSa).1) != ((sumE (doS SSa KKa xa)).1))))] (by kernel_rfl) rfl (by kernel_rfl) ?_
    have h83 : (((sumE SSa).1) != ((sumE (doS SSa KKa xa)).1)) = false := by rw [do_refused p82]; simp
    rw [h83]
    refine Dr.takes (fuel' := 0) (is' := [21, 20, 19, 18, 17, 16, 15, 14, 13, 12, 11, 10, 9, 8, 7, 6, 5, 4, 3, 2, 1, 0]) [16, 17, 18, 19, 20, 21] [(0, (Value.slice OAa la.length oca)), (4, (ptr b1)), (5, (ptr b7)), (7, (ptr b13)), (8, (i64 ((ia : Nat) : Int))), (9, (i64 ((sumE SSa).1))), (10, (i64 ((sumE SSa).2))), (11, (ptr b62)), (12, (i64 ((sumE (doS SSa KKa xa)).1))), (13, (i64 ((sumE (doS SSa KKa xa)).2))), (24, (Value.bool true)), (64, (Value.bool (((sumE SSa).2) != ((sumE (doS SSa KKa xa)).2))))] (by kernel_rfl) rfl (by kernel_rfl) ?_
    refine Dr.done (by kernel_rfl) ?_
    have h84 : (((sumE SSa).2) != ((sumE (doS SSa KKa xa)).2)) = false := by rw [do_refused p82]; simp
    rw [h84]
    refine q_else (o := .tmp 64) (by kernel_rfl) rfl ?_
    refine q_skip (by kernel_rfl) ?_
    refine qg ?_
    refine og 2 [(0, (Value.slice OAa la.length oca)), (4, (ptr b1)), (5, (ptr b7)), (7, (ptr b13)), (8, (i64 ((ia : Nat) : Int))), (9, (i64 ((sumE SSa).1))), (10, (i64 ((sumE SSa).2))), (11, (ptr b62)), (12, (i64 ((sumE (doS SSa KKa xa)).1))), (13, (i64 ((sumE (doS SSa KKa xa)).2))), (24, (Value.bool true)), (26, (i64 (IntKind.i64.wrap (((ia : Nat) : Int) + 1)))), (64, (Value.bool false))] 2 ?_
    have e85 : IntKind.i64.wrap (((ia : Nat) : Int) + 1) = ((ia + 1 : Nat) : Int) := by rw [wrap_i64 (by omega) (by omega)]; omega
    rw [e85]
    clear e85
    refine og 1 [(0, (Value.slice OAa la.length oca)), (4, (ptr b1)), (5, (ptr b7)), (7, (ptr b13)), (8, (i64 ((ia + 1 : Nat) : Int))), (9, (i64 ((sumE SSa).1))), (10, (i64 ((sumE SSa).2))), (11, (ptr b62)), (12, (i64 ((sumE (doS SSa KKa xa)).1))), (13, (i64 ((sumE (doS SSa KKa xa)).2))), (24, (Value.bool true)), (64, (Value.bool false))] 3 ?_
    refine Ops.keep (R := [(0, (Value.slice OAa la.length oca)), (4, (ptr b1)), (5, (ptr b7)), (7, (ptr b13)), (8, (i64 ((ia + 1 : Nat) : Int)))]) (by kernel_rfl) ?_
    refine od ?_
    exact ⟨(ia + 1, m44, (doS SSa KKa xa), (doK SSa KKa xa)), ⟨rfl, (by omega), hB51, (by omega), (hmay.do_), K28, H29, H30, H31, H32, Hm49, Hk50⟩, (show 60 - (ia + 1) < 60 - ia from by omega)⟩
   ·rw [h81]
    have p86 : (doR SSa KKa xa).why = 0 := of_bne_f h81
    refine Dr.takes (fuel' := 0) (is' := [21, 20, 19, 18, 17, 16, 15, 14, 13, 12, 11, 10, 9, 8, 7, 6, 5, 4, 3, 2, 1, 0]) [12, 13, 14, 15, 16, 17, 18, 19, 20, 21] [(0, (Value.slice OAa la.length oca)), (4, (ptr b1)), (5, (ptr b7)), (7, (ptr b13)), (8, (i64 ((ia : Nat) : Int))), (9, (i64 ((sumE SSa).1))), (10, (i64 ((sumE SSa).2))), (11, (ptr b62)), (12, (i64 ((sumE (doS SSa KKa xa)).1))), (13, (i64 ((sumE (doS SSa KKa xa)).2))), (24, (Value.bool true)), (64, (Value.bool false))] (by kernel_rfl) rfl (by kernel_rfl) ?_
    refine Dr.done (by kernel_rfl) ?_
    refine q_else (o := .tmp 64) (by kernel_rfl) rfl ?_
    refine q_skip (by kernel_rfl) ?_
    refine qg ?_
    refine og 2 [(0, (Value.slice OAa la.length oca)), (4, (ptr b1)), (5, (ptr b7)), (7, (ptr b13)), (8, (i64 ((ia : Nat) : Int))), (9, (i64 ((sumE SSa).1))), (10, (i64 ((sumE SSa).2))), (11, (ptr b62)), (12, (i64 ((sumE (doS SSa KKa xa)).1))), (13, (i64 ((sumE (doS SSa KKa xa)).2))), (24, (Value.bool true)), (26, (i64 (IntKind.i64.wrap (((ia : Nat) : Int) + 1)))), (64, (Value.bool false))] 2 ?_
    have e87 : IntKind.i64.wrap (((ia : Nat) : Int) + 1) = ((ia + 1 : Nat) : Int) := by rw [wrap_i64 (by omega) (by omega)]; omega
    rw [e87]
    clear e87
    refine og 1 [(0, (Value.slice OAa la.length oca)), (4, (ptr b1)), (5, (ptr b7)), (7, (ptr b13)), (8, (i64 ((ia + 1 : Nat) : Int))), (9, (i64 ((sumE SSa).1))), (10, (i64 ((sumE SSa).2))), (11, (ptr b62)), (12, (i64 ((sumE (doS SSa KKa xa)).1))), (13, (i64 ((sumE (doS SSa KKa xa)).2))), (24, (Value.bool true)), (64, (Value.bool false))] 3 ?_
    refine Ops.keep (R := [(0, (Value.slice OAa la.length oca)), (4, (ptr b1)), (5, (ptr b7)), (7, (ptr b13)), (8, (i64 ((ia + 1 : Nat) : Int)))]) (by kernel_rfl) ?_
    refine od ?_
    exact ⟨(ia + 1, m44, (doS SSa KKa xa), (doK SSa KKa xa)), ⟨rfl, (by omega), hB51, (by omega), (hmay.do_), K28, H29, H30, H31, H32, Hm49, Hk50⟩, (show 60 - (ia + 1) < 60 - ia from by omega)⟩
  ·rw [h40]
   have p88 : ¬ (((ia : Nat) : Int) < 60) := of_decide_eq_false h40
   refine q_exit (id := 0) (by kernel_rfl) ?_
   refine qs ?_
   refine q_draw (fun wz => Keeps none_ w27 wz) 11 (by kernel_rfl) (by kernel_rfl) (by kernel_rfl) (fun w89 K90 _ _ => ⟨K90, ?_⟩)
   replace K28 := K28.trans K90 (U := none_) (fun i h1 h2 => h2) (fun i h1 h2 => by exact h2)
   replace H29 := H29.keep K90 (fun h => h)
   replace H30 := H30.keep K90 (fun h => h)
   replace H31 := H31.keep K90 (fun h => h)
   replace H32 := H32.keep K90 (fun h => h)
   replace H33 := H33.keep K90 (fun h => h)
   replace H34 := H34.keep K90 (fun h => h)
   refine Dr.strong (S' := (fun wz => Keeps none_ w89 wz)) (Keeps.refl w89) (fun wz hx => K90.trans hx (fun i _ h => h) (fun _ _ h => h)) ?_
   clear K90
   refine Dr.take (i := 0) (v := (agg [(i64 o.kind), (Value.string (str o.frm)), (Value.string (str o.to)), (i64 o.amount), (Value.string (str o.key)), (i64 o.slot), (i64 o.shard)])) (by kernel_rfl) (by kernel_rfl) (fun wz hS => Runs.load (t := 24) (a := ⟨b1, 0, none⟩) (by kernel_rfl) ((H30.keep hS (fun h => h)).loads (by kernel_rfl))) (d := (some 65)) (by kernel_rfl) rfl ?_
   refine Dr.take (i := 1) (v := (agg [(i64 r.why), (i64 r.amount), (Value.slice RA r.rows.length rc)])) (by kernel_rfl) (by kernel_rfl) (fun wz hS => Runs.load (t := 30) (a := ⟨b7, 0, none⟩) (by kernel_rfl) ((H31.keep hS (fun h => h)).loads (by kernel_rfl))) (d := (some 66)) (by kernel_rfl) rfl ?_
   refine Dr.take (i := 3) (v := (agg [(i64 o.kind), (Value.string (str o.frm)), (Value.string (str o.to)), (i64 o.amount), (Value.string (str o.key)), (i64 o.slot), (i64 o.shard)])) (by kernel_rfl) (by kernel_rfl) (fun wz hS => Runs.load (t := 24) (a := ⟨b1, 0, none⟩) (by kernel_rfl) ((H30.keep hS (fun h => h)).loads (by kernel_rfl))) (d := (some 68)) (by kernel_rfl) rfl ?_
   refine Dr.take (i := 4) (v := (agg [(i64 r.why), (i64 r.amount), (Value.slice RA r.rows.length rc)])) (by kernel_rfl) (by kernel_rfl) (fun wz hS => Runs.load (t := 30) (a := ⟨b7, 0, none⟩) (by kernel_rfl) ((H31.keep hS (fun h => h)).loads (by kernel_rfl))) (d := (some 69)) (by kernel_rfl) rfl ?_
   refine Dr.call (i := 2) (by kernel_rfl) (by kernel_rfl) (d := (some 67)) (by kernel_rfl) (fun _ => Fits_calls _ o r RA rc (Rd.keep0 (by omega) hRr K28)) ?_
   rintro _ w94 ⟨t91, rfl, ht92, K93⟩
   replace K28 := K28.trans K93 (U := none_) (fun i h1 h2 => h2) (fun i h1 h2 => by exact h2)
   replace H29 := H29.keep K93 (fun h => h)
   replace H30 := H30.keep K93 (fun h => h)
   replace H31 := H31.keep K93 (fun h => h)
   replace H32 := H32.keep K93 (fun h => h)
   replace H33 := H33.keep K93 (fun h => h)
   replace H34 := H34.keep K93 (fun h => h)
   refine ⟨_, _, rfl, rfl, K93, ?_⟩
   refine Dr.strong (S' := (fun wz => Keeps none_ w94 wz)) (Keeps.refl w94) (fun wz hx => K93.trans hx (fun i _ h => h) (fun _ _ h => h)) ?_
   clear K93
   refine Dr.call (i := 5) (by kernel_rfl) (by kernel_rfl) (d := (some 70)) (by kernel_rfl) (fun _ => RFits_calls _ o r RA rc (Rd.keep0 (by omega) hRr K28)) ?_
   rintro _ w98 ⟨t95, rfl, ht96, K97⟩
   replace K28 := K28.trans K97 (U := none_) (fun i h1 h2 => h2) (fun i h1 h2 => by exact h2)
   replace H29 := H29.keep K97 (fun h => h)
   replace H30 := H30.keep K97 (fun h => h)
   replace H31 := H31.keep K97 (fun h => h)
   replace H32 := H32.keep K97 (fun h => h)
   replace H33 := H33.keep K97 (fun h => h)
   replace H34 := H34.keep K97 (fun h => h)
   refine ⟨_, _, rfl, rfl, K97, ?_⟩
   refine Dr.strong (S' := (fun wz => Keeps none_ w98 wz)) (Keeps.refl w98) (fun wz hx => K97.trans hx (fun i _ h => h) (fun _ _ h => h)) ?_
   clear K97
   refine Dr.split t91 (fun h99 => ?_) (fun h99 => ?_)
   ·rw [h99]
    have p100 : t91 = true := h99
    have h101 : t95 = true := ht96.2 (ht92.1 h99)
    rw [h101]
    refine Dr.takes (fuel' := 3) (is' := [7, 6, 5, 2, 4, 3, 1, 0]) [6, 7] [(72, (Value.bool true))] (by kernel_rfl) rfl (by kernel_rfl) ?_
    refine Dr.call (i := 8) (by kernel_rfl) (by kernel_rfl) (d := (some 73)) (by kernel_rfl) (fun _ => known_calls _ tb H29) ?_
    rintro _ w103 ⟨rfl, K102⟩
    replace K28 := K28.trans K102 (U := none_) (fun i h1 h2 => h2) (fun i h1 h2 => by exact h2)
    replace H29 := H29.keep K102 (fun h => h)
    replace H30 := H30.keep K102 (fun h => h)
    replace H31 := H31.keep K102 (fun h => h)
    replace H32 := H32.keep K102 (fun h => h)
    replace H33 := H33.keep K102 (fun h => h)
    replace H34 := H34.keep K102 (fun h => h)
    refine ⟨_, _, rfl, rfl, K102, ?_⟩
    refine Dr.strong (S' := (fun wz => Keeps none_ w103 wz)) (Keeps.refl w103) (fun wz hx => K102.trans hx (fun i _ h => h) (fun _ _ h => h)) ?_
    clear K102
    refine Dr.takes (fuel' := 0) (is' := [10, 9, 8, 7, 6, 5, 2, 4, 3, 1, 0]) [9, 10] [(6, (Value.bool true))] (by kernel_rfl) rfl (by kernel_rfl) ?_
    refine Dr.done (by kernel_rfl) ?_
    refine q_ret (by kernel_rfl) ?_
    refine ⟨(Value.bool true), retv_tmp rfl rfl, ?_⟩
    exact ⟨rfl, K28⟩
   ·rw [h99]
    have p104 : t91 = false := h99
    have h105 : t95 = false := eqt_f2 ht96 ht92 h99
    rw [h105]
    refine Dr.takes (fuel' := 3) (is' := [7, 6, 5, 2, 4, 3, 1, 0]) [6, 7] [(72, (Value.bool true))] (by kernel_rfl) rfl (by kernel_rfl) ?_
    refine Dr.call (i := 8) (by kernel_rfl) (by kernel_rfl) (d := (some 73)) (by kernel_rfl) (fun _ => known_calls _ tb H29) ?_
    rintro _ w107 ⟨rfl, K106⟩
    replace K28 := K28.trans K106 (U := none_) (fun i h1 h2 => h2) (fun i h1 h2 => by exact h2)
    replace H29 := H29.keep K106 (fun h => h)
    replace H30 := H30.keep K106 (fun h => h)
    replace H31 := H31.keep K106 (fun h => h)
    replace H32 := H32.keep K106 (fun h => h)
    replace H33 := H33.keep K106 (fun h => h)
    replace H34 := H34.keep K106 (fun h => h)
    refine ⟨_, _, rfl, rfl, K106, ?_⟩
    refine Dr.strong (S' := (fun wz => Keeps none_ w107 wz)) (Keeps.refl w107) (fun wz hx => K106.trans hx (fun i _ h => h) (fun _ _ h => h)) ?_
    clear K106
    refine Dr.takes (fuel' := 0) (is' := [10, 9, 8, 7, 6, 5, 2, 4, 3, 1, 0]) [9, 10] [(6, (Value.bool true))] (by kernel_rfl) rfl (by kernel_rfl) ?_
    refine Dr.done (by kernel_rfl) ?_
    refine q_ret (by kernel_rfl) ?_
    refine ⟨(Value.bool true), retv_tmp rfl rfl, ?_⟩
    exact ⟨rfl, K28⟩
 ·rw [h35]
  have p108 : ¬ (((ia : Nat) : Int) < ((la.length : Nat) : Int)) := of_decide_eq_false h35
  refine og 3 [(0, (Value.slice OAa la.length oca)), (4, (ptr b1)), (5, (ptr b7)), (7, (ptr b13)), (8, (i64 ((ia : Nat) : Int))), (24, (Value.bool false))] 8 ?_
  refine od ?_
  refine q_else (o := .tmp 24) (by kernel_rfl) rfl ?_
  refine q_exit (id := 0) (by kernel_rfl) ?_
  refine qs ?_
  refine q_draw (fun wz => Keeps none_ w27 wz) 11 (by kernel_rfl) (by kernel_rfl) (by kernel_rfl) (fun w109 K110 _ _ => ⟨K110, ?_⟩)
  replace K28 := K28.trans K110 (U := none_) (fun i h1 h2 => h2) (fun i h1 h2 => by exact h2)
  replace H29 := H29.keep K110 (fun h => h)
  replace H30 := H30.keep K110 (fun h => h)
  replace H31 := H31.keep K110 (fun h => h)
  replace H32 := H32.keep K110 (fun h => h)
  replace H33 := H33.keep K110 (fun h => h)
  replace H34 := H34.keep K110 (fun h => h)
  refine Dr.strong (S' := (fun wz => Keeps none_ w109 wz)) (Keeps.refl w109) (fun wz hx => K110.trans hx (fun i _ h => h) (fun _ _ h => h)) ?_
  clear K110
  refine Dr.take (i := 0) (v := (agg [(i64 o.kind), (Value.string (str o.frm)), (Value.string (str o.to)), (i64 o.amount), (Value.string (str o.key)), (i64 o.slot), (i64 o.shard)])) (by kernel_rfl) (by kernel_rfl) (fun wz hS => Runs.load (t := 24) (a := ⟨b1, 0, none⟩) (by kernel_rfl) ((H30.keep hS (fun h => h)).loads (by kernel_rfl))) (d := (some 65)) (by kernel_rfl) rfl ?_
  refine Dr.take (i := 1) (v := (agg [(i64 r.why), (i64 r.amount), (Value.slice RA r.rows.length rc)])) (by kernel_rfl) (by kernel_rfl) (fun wz hS => Runs.load (t := 30) (a := ⟨b7, 0, none⟩) (by kernel_rfl) ((H31.keep hS (fun h => h)).loads (by kernel_rfl))) (d := (some 66)) (by kernel_rfl) rfl ?_
  refine Dr.take (i := 3) (v := (agg [(i64 o.kind), (Value.string (str o.frm)), (Value.string (str o.to)), (i64 o.amount), (Value.string (str o.key)), (i64 o.slot), (i64 o.shard)])) (by kernel_rfl) (by kernel_rfl) (fun wz hS => Runs.load (t := 24) (a := ⟨b1, 0, none⟩) (by kernel_rfl) ((H30.keep hS (fun h => h)).loads (by kernel_rfl))) (d := (some 68)) (by kernel_rfl) rfl ?_
  refine Dr.take (i := 4) (v := (agg [(i64 r.why), (i64 r.amount), (Value.slice RA r.rows.length rc)])) (by kernel_rfl) (by kernel_rfl) (fun wz hS => Runs.load (t := 30) (a := ⟨b7, 0, none⟩) (by kernel_rfl) ((H31.keep hS (fun h => h)).loads (by kernel_rfl))) (d := (some 69)) (by kernel_rfl) rfl ?_
  refine Dr.call (i := 2) (by kernel_rfl) (by kernel_rfl) (d := (some 67)) (by kernel_rfl) (fun _ => Fits_calls _ o r RA rc (Rd.keep0 (by omega) hRr K28)) ?_
  rintro _ w114 ⟨t111, rfl, ht112, K113⟩
  replace K28 := K28.trans K113 (U := none_) (fun i h1 h2 => h2) (fun i h1 h2 => by exact h2)
  replace H29 := H29.keep K113 (fun h => h)
  replace H30 := H30.keep K113 (fun h => h)
  replace H31 := H31.keep K113 (fun h => h)
  replace H32 := H32.keep K113 (fun h => h)
  replace H33 := H33.keep K113 (fun h => h)
  replace H34 := H34.keep K113 (fun h => h)
  refine ⟨_, _, rfl, rfl, K113, ?_⟩
  refine Dr.strong (S' := (fun wz => Keeps none_ w114 wz)) (Keeps.refl w114) (fun wz hx => K113.trans hx (fun i _ h => h) (fun _ _ h => h)) ?_
  clear K113
  refine Dr.call (i := 5) (by kernel_rfl) (by kernel_rfl) (d := (some 70)) (by kernel_rfl) (fun _ => RFits_calls _ o r RA rc (Rd.keep0 (by omega) hRr K28)) ?_
  rintro _ w118 ⟨t115, rfl, ht116, K117⟩
  replace K28 := K28.trans K117 (U := none_) (fun i h1 h2 => h2) (fun i h1 h2 => by exact h2)
  replace H29 := H29.keep K117 (fun h => h)
  replace H30 := H30.keep K117 (fun h => h)
  replace H31 := H31.keep K117 (fun h => h)
  replace H32 := H32.keep K117 (fun h => h)
  replace H33 := H33.keep K117 (fun h => h)
  replace H34 := H34.keep K117 (fun h => h)
  refine ⟨_, _, rfl, rfl, K117, ?_⟩
  refine Dr.strong (S' := (fun wz => Keeps none_ w118 wz)) (Keeps.refl w118) (fun wz hx => K117.trans hx (fun i _ h => h) (fun _ _ h => h)) ?_
  clear K117
  refine Dr.split t111 (fun h119 => ?_) (fun h119 => ?_)
  ·rw [h119]
   have p120 : t111 = true := h119
   have h121 : t115 = true := ht116.2 (ht112.1 h119)
   rw [h121]
   refine Dr.takes (fuel' := 3) (is' := [7, 6, 5, 2, 4, 3, 1, 0]) [6, 7] [(72, (Value.bool true))] (by kernel_rfl) rfl (by kernel_rfl) ?_
   refine Dr.call (i := 8) (by kernel_rfl) (by kernel_rfl) (d := (some 73)) (by kernel_rfl) (fun _ => known_calls _ tb H29) ?_
   rintro _ w123 ⟨rfl, K122⟩
   replace K28 := K28.trans K122 (U := none_) (fun i h1 h2 => h2) (fun i h1 h2 => by exact h2)
   replace H29 := H29.keep K122 (fun h => h)
   replace H30 := H30.keep K122 (fun h => h)
   replace H31 := H31.keep K122 (fun h => h)
   replace H32 := H32.keep K122 (fun h => h)
   replace H33 := H33.keep K122 (fun h => h)
   replace H34 := H34.keep K122 (fun h => h)
   refine ⟨_, _, rfl, rfl, K122, ?_⟩
   refine Dr.strong (S' := (fun wz => Keeps none_ w123 wz)) (Keeps.refl w123) (fun wz hx => K122.trans hx (fun i _ h => h) (fun _ _ h => h)) ?_
   clear K122
   refine Dr.takes (fuel' := 0) (is' := [10, 9, 8, 7, 6, 5, 2, 4, 3, 1, 0]) [9, 10] [(6, (Value.bool true))] (by kernel_rfl) rfl (by kernel_rfl) ?_
   refine Dr.done (by kernel_rfl) ?_
   refine q_ret (by kernel_rfl) ?_
   refine ⟨(Value.bool true), retv_tmp rfl rfl, ?_⟩
   exact ⟨rfl, K28⟩
  ·rw [h119]
   have p124 : t111 = false := h119
   have h125 : t115 = false := eqt_f2 ht116 ht112 h119
   rw [h125]
   refine Dr.takes (fuel' := 3) (is' := [7, 6, 5, 2, 4, 3, 1, 0]) [6, 7] [(72, (Value.bool true))] (by kernel_rfl) rfl (by kernel_rfl) ?_
   refine Dr.call (i := 8) (by kernel_rfl) (by kernel_rfl) (d := (some 73)) (by kernel_rfl) (fun _ => known_calls _ tb H29) ?_
   rintro _ w127 ⟨rfl, K126⟩
   replace K28 := K28.trans K126 (U := none_) (fun i h1 h2 => h2) (fun i h1 h2 => by exact h2)
   replace H29 := H29.keep K126 (fun h => h)
   replace H30 := H30.keep K126 (fun h => h)
   replace H31 := H31.keep K126 (fun h => h)
   replace H32 := H32.keep K126 (fun h => h)
   replace H33 := H33.keep K126 (fun h => h)
   replace H34 := H34.keep K126 (fun h => h)
   refine ⟨_, _, rfl, rfl, K126, ?_⟩
   refine Dr.strong (S' := (fun wz => Keeps none_ w127 wz)) (Keeps.refl w127) (fun wz hx => K126.trans hx (fun i _ h => h) (fun _ _ h => h)) ?_
   clear K126
   refine Dr.takes (fuel' := 0) (is' := [10, 9, 8, 7, 6, 5, 2, 4, 3, 1, 0]) [9, 10] [(6, (Value.bool true))] (by kernel_rfl) rfl (by kernel_rfl) ?_
   refine Dr.done (by kernel_rfl) ?_
   refine q_ret (by kernel_rfl) ?_
   refine ⟨(Value.bool true), retv_tmp rfl rfl, ?_⟩
   exact ⟨rfl, K28⟩
end Go.Proofs.YtnfeemhpoaflfaaGreatDoor
