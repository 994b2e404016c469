/- What the claim stands on, part 12: rules of the walk, contracts of the functions, plain laws. -/
import Derived.Test.YtnfeemhpoaflfaaGreatDoorKSums5
import Derived.Sort.Walk0
import Derived.Test.YtnfeemhpoaflfaaGreatDoorKSums11
import Derived.Shelf.SlicesE.Index
import Derived.Test.YtnfeemhpoaflfaaGreatDoorKSums9
import Derived.Test.YtnfeemhpoaflfaaGreatDoorProg
import Derived.Test.YtnfeemhpoaflfaaGreatDoorKSums6
set_option linter.unusedVariables false
namespace Go.Q
def AccM.cells (a : AccM) : List Value := [.string (str a.name), i64 a.amt, .string (str a.own)]
theorem AccM.one (a : AccM) : oneCells a.cells = true := rfl
def posS (S : List AccM) (n : List UInt8) : Nat := (S.takeWhile fun a => decide (a.name < n)).length
def hasS (S : List AccM) (n : List UInt8) : Bool := match S[posS S n]? with | some a => a.name == n | none => false
/-- An element of one's own row is changed in one cell. -/
theorem flat_setT {α : Type} {f : α → List Value} {sz : Nat} (hf : ∀ x, (f x).length = sz) {o : Nat} {u : Value} {y : α} (ho : o < sz) :
    ∀ {l : List α} {i : Nat} {x : α}, l[i]? = some x → f y = (f x).set o u → (l.flatMap f).set (i * sz + o) u = (l.set i y).flatMap f
  | [], _, _, h, _ => by cases h
  | z :: l, 0, x, h, hy => by
    simp only [List.getElem?_cons_zero, Option.some.injEq] at h
    subst h
    rw [List.flatMap_cons, List.set_cons_zero, List.flatMap_cons, Nat.zero_mul, Nat.zero_add, List.set_append_left _ _ (by rw [hf]; exact ho), hy]
  | z :: l, i + 1, x, h, hy => by
    rw [List.getElem?_cons_succ] at h
    rw [List.flatMap_cons, List.set_cons_succ, List.flatMap_cons, List.set_append_right _ _ (by rw [hf, Nat.add_mul]; omega), hf, show (i + 1) * sz + o - sz = i * sz + o from by rw [Nat.add_mul]; omega, flat_setT hf ho h hy]
/-- An own row is opened at an element: its block, what lies there, and what may be stored. -/
theorem OwnT.open {α : Type} {f : α → List Value} {sz : Nat} (hf : ∀ x, (f x).length = sz) (h0 : 0 < sz) {w : World} {base e i c : Nat} {A : Option Addr} {l : List α} {x : α} (hx : l[i]? = some x) (h : OwnT w base e sz f (.slice A l.length c) l) :
    ∃ g cur, A = some ⟨g, 0, none⟩ ∧ base ≤ g ∧ Has w g (rowL cur e) ∧ i * sz + sz ≤ cur.length ∧ (∀ j u, (f x)[j]? = some u → cur[i * sz + j]? = some u) ∧
      ∀ (o : Nat) (u : Value) (y : α), o < sz → f y = (f x).set o u → ∀ w', Has w' g (rowL (cur.set (i * sz + o) u) e) → OwnT w' base e sz f (.slice A l.length c) (l.set i y) := by
  obtain ⟨hl, h⟩ := h
  have hi := (List.getElem?_eq_some_iff.1 hx).1
  have him : i * sz + sz ≤ l.length * sz := by rw [← Nat.succ_mul]; exact Nat.mul_le_mul_right _ hi
  rcases h with ⟨_, h0'⟩ | ⟨g, cap, cur, hv, hg, hh, h1, h2, h3, h4⟩
  · exfalso
    rw [flat_len hf] at hl
    have hz : (l.flatMap f).length = 0 := by rw [flat_len hf]; omega
    omega
  · simp only [Value.slice.injEq] at hv
    obtain ⟨rfl, _, rfl⟩ := hv
    have hcl : cur.toList.length = c * sz := by simpa using h3
    have hlc : l.length * sz ≤ c * sz := Nat.mul_le_mul_right _ h1
    refine ⟨g, cur.toList, rfl, hg, by unfold Has; rw [hh], by omega, fun j u hu => ?_, fun o u y ho hy w' H => ?_⟩
    · have hj := (List.getElem?_eq_some_iff.1 hu).1
      rw [hf] at hj
      have := flat_at hf hx j u hu
      rw [← h4, List.getElem?_take_of_lt (by omega)] at this
      exact this
    · have hset : (l.set i y).length = l.length := List.length_set
      refine ⟨?_, .inr ⟨g, c, ⟨cur.toList.set (i * sz + o) u⟩, by rw [hset], hg, H, by rw [hset]; exact h1, h2, ?_, ?_⟩⟩
      · rw [flat_len hf]
      · show (cur.toList.set (i * sz + o) u).length = _
        rw [List.length_set]; exact hcl
      · show (cur.toList.set (i * sz + o) u).take _ = _
        rw [hset, List.take_set, h4, flat_setT hf ho hx hy]
end Go.Q
namespace Go.Q
open Go.RowKit
def kone (x : Int) : List Value := [i64 x]
/-- The errors of a right operation of a kind. -/
def mayL (k : Int) : List Int := if k = 1 then [41, 45] else if k = 2 then [40, 43, 45] else if k = 3 then [40, 42, 45] else if k = 4 then [40, 42, 43, 45] else if k = 5 then [40] else []
def AdjP (l : List RowM) (j : Nat) : Prop := ∀ x, l[j]? = some x → 0 ≤ x.amount ∧ ∀ y, 0 < j → l[j - 1]? = some y → y.name < x.name
def AscP (l : List RowM) : Prop := ∀ j, j < l.length → AdjP l j
def FitsP (o : Opm) (r : ReplyM) : Prop :=
  if wrongE o ≠ 0 then r.why = wrongE o ∧ r.amount = 0 ∧ r.rows.length = 0
  else if r.why ≠ 0 then r.why ∈ mayL o.kind ∧ r.amount = 0 ∧ r.rows.length = 0
  else if o.kind = 5 then 0 ≤ r.amount ∧ r.rows.length = 0
  else if o.kind ≠ 6 then r.amount = 0 ∧ r.rows.length = 0
  else r.amount = 0 ∧ AscP r.rows
theorem AscP.zero {l : List RowM} (h : l.length = 0) : AscP l := fun j hj => absurd hj (by omega)
/-- What is kept is kept with an error of its kind. -/
def MayK (K : List KeptM) : Prop := ∀ k ∈ K, k.why = 0 ∨ k.why ∈ mayL k.op.kind
theorem MayK.nil : MayK [] := fun k h => by cases h
/-- What is refused changes no account. -/
theorem act_refused {S : List RowM} {o : Opm} (h : actE S o ≠ 0) : actS S o = S := by
  unfold actE at h
  unfold actS
  repeat' split
  all_goals first | rfl | (exfalso; apply h; simp_all)
theorem do_refused {S : List RowM} {K : List KeptM} {o : Opm} (h : (doR S K o).why ≠ 0) : doS S K o = S := by
  unfold doS
  split
  · next hf =>
    rw [(do_fresh hf.1 hf.2.1 hf.2.2.1 hf.2.2.2.1 hf.2.2.2.2).1] at h
    exact act_refused h
  · rfl
end Go.Q
namespace Go.Q
open Go.RowKit
theorem sumR_cons (a : RowM) (S : List RowM) : sumR (a :: S) = a.amount + sumR S := by simp [sumR]
theorem sumR_ins (S : List RowM) (a : RowM) : sumR (insW S a) = sumR S + a.amount := by
  induction S with
  | nil => simp [insW, sumR]
  | cons b S ih =>
    unfold insW
    split
    · rw [sumR_cons, sumR_cons, ih]; omega
    · rw [sumR_cons, sumR_cons]; omega
theorem setW_none {S : List RowM} {n : List UInt8} {x : Int} (h : ∀ a ∈ S, a.name ≠ n) : setW S n x = S := by
  unfold setW
  conv => rhs; rw [← List.map_id S]
  exact List.map_congr_left fun a ha => by rw [if_neg (h a ha)]; rfl
theorem sumR_set {S : List RowM} (h : S.Pairwise (fun a b => ltN a.name b.name)) {n : List UInt8} {x : Int} {a : RowM} (hg : getW S n = some a) : sumR (setW S n x) = sumR S - a.amount + x := by
  induction S with
  | nil => cases hg
  | cons b S ih =>
    rw [List.pairwise_cons] at h
    have e0 : setW (b :: S) n x = (if b.name = n then ⟨n, x⟩ else b) :: setW S n x := rfl
    rw [e0]
    by_cases hb : b.name = n
    · rw [if_pos hb, setW_none fun c hc e => by have := h.1 c hc; rw [e, hb] at this; exact ltN_irrefl _ this, sumR_cons, sumR_cons]
      unfold getW at hg
      rw [List.find?_cons_of_pos (by simpa using hb)] at hg
      obtain rfl := Option.some.inj hg
      show x + _ = _
      omega
    · rw [if_neg hb, sumR_cons, sumR_cons]
      unfold getW at hg
      rw [List.find?_cons_of_neg (by simpa using hb)] at hg
      rw [ih h.2 hg]
      omega
/-- What an operation that is done adds to the sum. -/
def deltaE (o : Opm) : Int := if o.kind = 2 then o.amount else if o.kind = 3 then -o.amount else 0
theorem delta_dep {o : Opm} (h : o.kind = 2) : deltaE o = o.amount := if_pos h
theorem delta_wd {o : Opm} (h : o.kind = 3) : deltaE o = -o.amount := by unfold deltaE; rw [if_neg (by omega), if_pos h]
theorem delta_no {o : Opm} (h2 : o.kind ≠ 2) (h3 : o.kind ≠ 3) : deltaE o = 0 := by unfold deltaE; rw [if_neg h2, if_neg h3]
theorem act_sum {S : List RowM} {o : Opm} (h : Led S) (hk : 1 ≤ o.kind ∧ o.kind ≤ 4) (h0 : actE S o = 0) (hne : o.kind = 4 → o.frm ≠ o.to) : sumR (actS S o) = sumR S + deltaE o := by
  unfold actE at h0
  unfold actS
  by_cases h1 : o.kind = 1
  · rw [if_pos h1] at h0 ⊢
    rw [delta_no (by omega) (by omega)]
    split at h0
    · cases h0
    · next hn => rw [if_neg hn, sumR_ins]
  · rw [if_neg h1] at h0 ⊢
    cases hg : getW S o.frm with
    | none => rw [hg] at h0; cases h0
    | some a =>
      rw [hg] at h0
      simp only [] at h0 ⊢
      by_cases h2 : o.kind = 2
      · rw [if_pos h2] at h0 ⊢
        rw [delta_dep h2]
        split at h0
        · cases h0
        · next hn => rw [if_neg hn, sumR_set h.sorted hg]; omega
      · rw [if_neg h2] at h0 ⊢
        split at h0
        · cases h0
        · next hn =>
          rw [if_neg hn]
          by_cases h4 : o.kind = 4
          · rw [if_pos h4] at h0 ⊢
            rw [delta_no h2 (by omega)]
            cases ht : getW S o.to with
            | none => rw [ht] at h0; cases h0
            | some b0 =>
              rw [ht] at h0
              simp only [] at h0 ⊢
              split at h0
              · cases h0
              · next hm =>
                rw [if_neg hm]
                have hs : (setW S o.to (b0.amount + o.amount)).Pairwise (fun a b => ltN a.name b.name) := by
                  unfold setW
                  refine List.pairwise_map.2 (h.sorted.imp fun {a b} hlt => ?_)
                  have e : ∀ c : RowM, (if c.name = o.to then (⟨o.to, b0.amount + o.amount⟩ : RowM) else c).name = c.name := by
                    intro c
                    split
                    · next h => exact h.symm
                    · rfl
                  rw [e, e]
                  exact hlt
                rw [sumR_set (a := a) hs (by rw [getW_set, if_neg (hne h4), hg]), sumR_set h.sorted ht]
                omega
          · rw [if_neg h4, delta_wd (by omega), sumR_set h.sorted hg]
            omega
def SameP (a b : Opm) : Prop := a.frm = b.frm ∧ a.key = b.key ∧ a.kind = b.kind ∧ a.amount = b.amount
/-- What is kept, of the first i operations. -/
structure SumInv (l : List Opm) (i : Nat) (K : List KeptM) : Prop where
  came : ∀ x ∈ K, ∃ j y, j < i ∧ l[j]? = some y ∧ plainE y = x.op
  went : ∀ j y, j < i → l[j]? = some y → wrongE y = 0 → 1 ≤ y.kind ∧ y.kind ≤ 4 → findK K y.frm y.key ≠ none
theorem SumInv.nil (l : List Opm) : SumInv l 0 [] := ⟨fun x h => (by cases h), fun j y h => absurd h (Nat.not_lt_zero _)⟩
theorem SumInv.step {l : List Opm} {i : Nat} {S : List RowM} {K : List KeptM} {o : Opm} (h : SumInv l i K) (ho : l[i]? = some o) : SumInv l (i + 1) (doK S K o) := by
  refine ⟨fun x hx => ?_, fun j y hj hy hw hk => ?_⟩
  · unfold doK at hx
    split at hx
    · rcases List.mem_append.1 hx with hx | hx
      · obtain ⟨j, y, h1, h2⟩ := h.came x hx; exact ⟨j, y, by omega, h2⟩
      · rw [List.mem_singleton.1 hx]; exact ⟨i, o, by omega, ho, rfl⟩
    · obtain ⟨j, y, h1, h2⟩ := h.came x hx; exact ⟨j, y, by omega, h2⟩
  · have key : ∀ z, findK K y.frm y.key = some z → findK (doK S K o) y.frm y.key ≠ none := fun z hz => by rw [findK_pre (doK_pre S K o) hz]; exact fun q => by cases q
    by_cases hji : j < i
    · cases hz : findK K y.frm y.key with
      | none => exact absurd hz (h.went j y hji hy hw hk)
      | some z => exact key z hz
    · obtain rfl : j = i := by omega
      rw [ho] at hy
      obtain rfl := Option.some.inj hy
      cases hz : findK K o.frm o.key with
      | some z => exact key z hz
      | none =>
        have hf : Fresh K o := ⟨hw, by omega, by omega, by omega, hz⟩
        rw [show doK S K o = K ++ [⟨plainE o, actE S (plainE o)⟩] from if_pos hf]
        have e : findK (K ++ [⟨plainE o, actE S (plainE o)⟩]) o.frm o.key = some ⟨plainE o, actE S (plainE o)⟩ := findK_last (x := ⟨plainE o, actE S (plainE o)⟩) hz
        rw [e]
        exact fun q => by cases q
theorem wrongE_same {a b : Opm} (h : SameP a b) (hk : b.kind = 2 ∨ b.kind = 3) : wrongE a = wrongE b := by
  obtain ⟨h1, h2, h3, h4⟩ := h
  unfold wrongE
  rw [h1, h2, h3, h4]
  rcases hk with hk | hk <;> rw [hk] <;> simp
theorem fresh_sum {S : List RowM} {K : List KeptM} {o : Opm} (h : Led S) (hf : Fresh K o) : sumR (doS S K o) = sumR S + (if (doR S K o).why = 0 then deltaE o else 0) := by
  obtain ⟨q1, -⟩ := wrong_act hf.1 hf.2.1 hf.2.2.1 hf.2.2.2.1
  rw [(do_fresh hf.1 hf.2.1 hf.2.2.1 hf.2.2.2.1 hf.2.2.2.2).1, show doS S K o = actS S (plainE o) from if_pos hf]
  by_cases h0 : actE S (plainE o) = 0
  · rw [if_pos h0, act_sum (o := plainE o) h q1 h0 (fresh_ne hf)]
    congr 1
    unfold deltaE
    rw [show (plainE o).kind = o.kind from rfl]
    by_cases h2 : o.kind = 2
    · rw [if_pos h2, if_pos h2, plainE_amount o (by omega)]
    · rw [if_neg h2, if_neg h2]
      by_cases h3 : o.kind = 3
      · rw [if_pos h3, if_pos h3, plainE_amount o (by omega)]
      · rw [if_neg h3, if_neg h3]
  · rw [if_neg h0, act_refused h0, Int.add_zero]
theorem sum_once {l : List Opm} {i : Nat} {S : List RowM} {K : List KeptM} {o : Opm} (hS : Led S) (h : SumInv l i K) (hon : ∀ j z, j < i → l[j]? = some z → ¬ SameP z o) (h0 : (doR S K o).why = 0) : sumR (doS S K o) = sumR S + deltaE o := by
  by_cases hf : Fresh K o
  · rw [fresh_sum hS hf, if_pos h0]
  · rw [show doS S K o = S from if_neg hf]
    by_cases hd : o.kind = 2 ∨ o.kind = 3
    · exfalso
      have hw : wrongE o = 0 := by
        by_cases hw : wrongE o = 0
        · exact hw
        · rw [(do_wrong hw).1] at h0; exact absurd h0 hw
      have h7 : o.kind ≠ 7 := by omega
      have h6 : o.kind ≠ 6 := by omega
      have h5 : o.kind ≠ 5 := by omega
      cases hz : findK K o.frm o.key with
      | none => exact hf ⟨hw, h7, h6, h5, hz⟩
      | some z =>
        cases he : opEq z.op (plainE o) with
        | false => rw [(do_other hw h7 h6 h5 hz he).1] at h0; exact absurd h0 (by decide)
        | true =>
          have he := (opEq_iff _ _).1 he
          obtain ⟨j, y, hj, hy, e⟩ := h.came z (findK_some hz).1
          rw [he] at e
          have e1 := congrArg Opm.frm e
          have e2 := congrArg Opm.key e
          have e3 := congrArg Opm.kind e
          have e4 := congrArg Opm.amount e
          have e3' : y.kind = o.kind := e3
          rw [plainE_amount y (by omega), plainE_amount o (by omega)] at e4
          exact hon j y hj hy ⟨e1, e2, e3', e4⟩
    · unfold deltaE
      rw [if_neg (fun q => hd (.inl q)), if_neg (fun q => hd (.inr q)), Int.add_zero]
theorem sum_twice {l : List Opm} {i : Nat} {S : List RowM} {K : List KeptM} {o : Opm} (hS : Led S) (h : SumInv l i K) (hon : ¬ ∀ j z, j < i → l[j]? = some z → ¬ SameP z o) : sumR (doS S K o) = sumR S := by
  by_cases hf : Fresh K o
  · by_cases hd : o.kind = 2 ∨ o.kind = 3
    · exfalso
      apply hon
      intro j z hj hz hs
      refine h.went j z hj hz ((wrongE_same hs hd).trans hf.1) (by rw [hs.2.2.1]; omega) ?_
      rw [hs.1, hs.2.1]
      exact hf.2.2.2.2
    · rw [fresh_sum hS hf]
      unfold deltaE
      rw [if_neg (fun q => hd (.inl q)), if_neg (fun q => hd (.inr q))]
      simp
  · rw [show doS S K o = S from if_neg hf]
theorem sum_no {S : List RowM} {K : List KeptM} {o : Opm} (h : (doR S K o).why ≠ 0) : sumR (doS S K o) = sumR S := by rw [do_refused h]
theorem once_step {l : List Opm} {j : Nat} {z o : Opm} {a b : Bool} (hz : l[j]? = some z) (h : a = true ↔ ∀ k y, k < j → l[k]? = some y → ¬ SameP y o) (hb : b = true ↔ a = true ∧ ¬ SameP z o) : b = true ↔ ∀ k y, k < j + 1 → l[k]? = some y → ¬ SameP y o := by
  rw [hb, h]
  constructor
  · rintro ⟨h1, h2⟩ k y hk hy
    by_cases hkj : k < j
    · exact h1 k y hkj hy
    · obtain rfl : k = j := by omega
      rw [hz] at hy
      obtain rfl := Option.some.inj hy
      exact h2
  · intro h1
    exact ⟨fun k y hk hy => h1 k y (by omega) hy, h1 j z (by omega) hz⟩
theorem sumE_ok {S : List RowM} (h : (sumE S).2 = 0) : (sumE S).1 = sumR S := by
  unfold sumE at h ⊢
  split at h
  · cases h
  · next hn => rw [if_neg hn]
end Go.Q
namespace Go.Proofs.YtnfeemhpoaflfaaGreatDoor
open Go.Q Go.RowKit

set_option maxHeartbeats 4000000 in
theorem Sums_calls (w : World) (OAa : Option Addr) (oca : Nat) (la : List Opm) (tb : Nat) (hLa : RdT w 7 Opm.cells (.slice OAa la.length oca) la) (hLoa : ∀ x ∈ la, x.Ok) (HT : Tab Tryz.prog w tb) : Calls Tryz.prog 4 ⟨[(Value.slice OAa la.length oca)]⟩ w (fun e w' => e = .returned (.bool true) ∧ Keeps none_ w w') := by
 have hcapa := RdT.len Opm.seven (by decide) hLa
 have HTl := HT.lt
 have K0 : Keeps none_ w w := Keeps.refl w
 refine q_calls Tryz.func4 (by kernel_rfl) (by kernel_rfl) ?_
 refine qs ?_
 refine qg ?_
 refine og 1 [(0, (Value.slice OAa la.length oca)), (2, (Value.bool false))] 1 ?_
 refine od ?_
 refine qs ?_
 refine qg ?_
 refine Ops.call (by kernel_rfl) (d := (some 12)) (by kernel_rfl) (New_calls _) ?_
 rintro _ w4 ⟨b1, mb2, kb3, rfl, K5, H6, Hm7, Hk8, hb9, hb10, hb11, hb12, hb13, hb14⟩
 have lb1tb : tb < b1 := by have := HT.lt; omega
 have lmb2tb : tb < mb2 := by have := HT.lt; omega
 have lkb3tb : tb < kb3 := by have := HT.lt; omega
 have nb1 : w.heap.size ≤ b1 := by have := K0.size; omega
 have nmb2 : w.heap.size ≤ mb2 := by have := K0.size; omega
 have nkb3 : w.heap.size ≤ kb3 := by have := K0.size; omega
 refine ⟨_, _, rfl, rfl, ?_⟩
 replace K0 := K0.t0 K5
 replace HT := HT.keep K5 (fun h => h)
 clear K5
 refine og 1 [(0, (Value.slice OAa la.length oca)), (2, (Value.bool false)), (3, (ptr b1))] 2 ?_
 refine od ?_
 refine qs ?_
 refine qs ?_
 refine qg ?_
 refine og 2 [(0, (Value.slice OAa la.length oca)), (2, (Value.bool false)), (3, (ptr b1)), (14, (Value.bool false))] 2 ?_
 refine od ?_
 refine q_else (o := .tmp 14) (by kernel_rfl) rfl ?_
 refine q_skip (by kernel_rfl) ?_
 refine qs ?_
 refine qg ?_
 refine og 1 [(0, (Value.slice OAa la.length oca)), (2, (Value.bool false)), (3, (ptr b1)), (4, (Value.int IntKind.u64 0))] 1 ?_
 refine od ?_
 refine qs ?_
 refine qs ?_
 refine qg ?_
 refine og 1 [(0, (Value.slice OAa la.length oca)), (2, (Value.bool false)), (3, (ptr b1)), (4, (Value.int IntKind.u64 0)), (5, (i64 0))] 1 ?_
 refine od ?_
 refine q_block (id := 0) (by kernel_rfl) ?_
 refine q_keep (R := [(0, (Value.slice OAa la.length oca)), (2, (Value.bool false)), (3, (ptr b1)), (4, (Value.int IntKind.u64 0)), (5, (i64 0))]) (by kernel_rfl) ?_
 refine q_loop (fun (gs : Nat × (List (List UInt8 × Int)) × (List RowM) × (List KeptM)) L (wx : World) => match gs with | (ia, mma, SSa, KKa) => L = [(0, (Value.slice OAa la.length oca)), (2, (Value.bool false)), (3, (ptr b1)), (4, (Value.int IntKind.u64 (IntKind.u64.wrap (sumR SSa)))), (5, (i64 ((ia : Nat) : Int)))] ∧ ia ≤ 120 ∧ LBook mma SSa KKa ∧ KKa.length ≤ ia + 0 ∧ SumInv la ia KKa ∧ Keeps none_ w wx ∧ Tab Tryz.prog wx tb ∧ Has wx b1 (rowL [(Value.map (some mb2)), (Value.map (some kb3))] 54) ∧ HasMap wx mb2 kstr ki64 mma ∧ HasMap wx kb3 kpair keptv (KKa.map KeptM.kv)) (fun (gs : Nat × (List (List UInt8 × Int)) × (List RowM) × (List KeptM)) => match gs with | (ia, mma, SSa, KKa) => 120 - ia) (0, [], ([] : List RowM), ([] : List KeptM)) (by kernel_rfl) ⟨rfl, Nat.zero_le _, LBook.nil, (by first | omega | (simp; done) | (show 0 ≤ _; omega)), (SumInv.nil la), K0, HT, H6, Hm7, Hk8⟩ ?_
 clear HT H6 Hm7 Hk8 K0
 rintro ⟨ia, mma, SSa, KKa⟩ _ w15 ⟨rfl, hia, hBma, hkla, hinv, K16, H17, H18, H19, H20⟩
 have hlea := hBma.ledg.le
 refine qs ?_
 refine qs ?_
 refine qg ?_
 refine og 5 [(0, (Value.slice OAa la.length oca)), (2, (Value.bool false)), (3, (ptr b1)), (4, (Value.int IntKind.u64 (IntKind.u64.wrap (sumR SSa)))), (5, (i64 ((ia : Nat) : Int))), (19, (Value.bool (decide (((ia : Nat) : Int) < ((la.length : Nat) : Int)))))] 5 ?_
 refine Ops.split (decide (((ia : Nat) : Int) < ((la.length : Nat) : Int))) (fun h21 => ?_) (fun h21 => ?_)
 ·rw [h21]
  have p22 : ((ia : Nat) : Int) < ((la.length : Nat) : Int) := of_decide_eq_true h21
  obtain ⟨xa, hxa⟩ : ∃ y, la[ia]? = some y := ⟨_, List.getElem?_eq_getElem (by omega)⟩
  have hxao := hLoa xa (List.mem_of_getElem? hxa)
  have hxa1 := hxao.amount
  obtain ⟨rb23, ro24, hA25⟩ := Rd.addr (Rd.keep0 (by decide) hLa K16) (by omega)
  refine og 3 [(0, (Value.slice OAa la.length oca)), (2, (Value.bool false)), (3, (ptr b1)), (4, (Value.int IntKind.u64 (IntKind.u64.wrap (sumR SSa)))), (5, (i64 ((ia : Nat) : Int))), (22, (Value.bool (decide (((ia : Nat) : Int) < 120))))] 8 ?_
  refine od ?_
  refine q_cond (o := .tmp 22) (b := (decide (((ia : Nat) : Int) < 120))) (by kernel_rfl) rfl (fun h26 => ?_) (fun h26 => ?_)
  ·rw [h26]
   have p27 : ((ia : Nat) : Int) < 120 := of_decide_eq_true h26
   refine q_skip (by kernel_rfl) ?_
   refine qs ?_
   refine q_block (id := 1) (by kernel_rfl) ?_
   refine qs ?_
   refine qg ?_
   refine og 2 [(0, (Value.slice OAa la.length oca)), (2, (Value.bool false)), (3, (ptr b1)), (4, (Value.int IntKind.u64 (IntKind.u64.wrap (sumR SSa)))), (5, (i64 ((ia : Nat) : Int))), (22, (Value.bool true)), (25, (Value.slice OAa la.length oca)), (26, (i64 ((ia : Nat) : Int)))] 2 ?_
   refine Ops.go (by kernel_rfl) (Runs.ixSliceE (k := IntKind.i64) (t := 22) (len := la.length) (cap := oca) (s := 7) (off' := ro24 + ia * 7) (i := ((ia : Nat) : Int)) hA25 (by kernel_rfl) (by kernel_rfl) (by omega) (by omega) (by omega)) (d := (some 27)) (by kernel_rfl) rfl ?_
   refine Ops.go (v := (agg [(i64 xa.kind), (Value.string (str xa.frm)), (Value.string (str xa.to)), (i64 xa.amount), (Value.string (str xa.key)), (i64 xa.slot), (i64 xa.shard)])) (by kernel_rfl) (Runs.load (t := 24) (a := ⟨rb23, ro24 + ia * 7, none⟩) (by kernel_rfl) (RdT.ld (f := Opm.cells) (x := xa) Opm.seven (Rd.keep0 (by decide) hLa K16) (by kernel_rfl) (by kernel_rfl) hA25 hxa)) (d := (some 28)) (by kernel_rfl) rfl ?_
   refine Ops.new (o := rowL [(i64 0), (Value.string ByteArray.empty), (Value.string ByteArray.empty), (i64 0), (Value.string ByteArray.empty), (i64 0), (i64 0)] 24) (V := fun b => (ptr b)) (by kernel_rfl) (d := (some 6)) (by kernel_rfl) (fun b => rfl) (fun b28 w29 hb30 H31 K32 hs33 => ?_)
   have lb28tb : tb < b28 := by have := H17.lt; omega
   have lb28b1 : b1 < b28 := by have := H18.lt; omega
   have lb28mb2 : mb2 < b28 := by have := H19.lt; omega
   have lb28kb3 : kb3 < b28 := by have := H20.lt; omega
   have nb28 : w.heap.size ≤ b28 := by have := K16.size; omega
   replace K16 := K16.trans K32 (U := none_) (fun i h1 h2 => h2) (fun i h1 h2 => by exact h2)
   replace H17 := H17.keep K32 (fun h => h)
   replace H18 := H18.keep K32 (fun h => h)
   replace H19 := H19.keep K32 (fun h => h)
   replace H20 := H20.keep K32 (fun h => h)
   clear K32 hs33
   refine Ops.put (t := 24) (b := b28) (off := 0) (v := (agg [(i64 xa.kind), (Value.string (str xa.frm)), (Value.string (str xa.to)), (i64 xa.amount), (Value.string (str xa.key)), (i64 xa.slot), (i64 xa.shard)])) (ys := [(i64 xa.kind), (Value.string (str xa.frm)), (Value.string (str xa.to)), (i64 xa.amount), (Value.string (str xa.key)), (i64 xa.slot), (i64 xa.shard)]) (by kernel_rfl) (by kernel_rfl) H31 (by kernel_rfl) (d := none) (by kernel_rfl) rfl (fun w34 H35 K36 => ?_)
   clear H31
   replace K16 := K16.trans K36 (U := none_) (fun i h1 h2 => h2) (fun i h1 h2 => by have h2 : i = b28 := h2; exfalso; omega)
   replace H17 := H17.keep K36 (by intro h; change tb = b28 at h; omega)
   replace H18 := H18.keep K36 (by intro h; change b1 = b28 at h; omega)
   replace H19 := H19.keep K36 (by intro h; change mb2 = b28 at h; omega)
   replace H20 := H20.keep K36 (by intro h; change kb3 = b28 at h; omega)
   clear K36
   refine od ?_
   refine qs ?_
   refine qg ?_
   refine og 1 [(0, (Value.slice OAa la.length oca)), (2, (Value.bool false)), (3, (ptr b1)), (4, (Value.int IntKind.u64 (IntKind.u64.wrap (sumR SSa)))), (5, (i64 ((ia : Nat) : Int))), (6, (ptr b28)), (7, (Value.bool true)), (22, (Value.bool true))] 1 ?_
   refine od ?_
   refine qs ?_
   refine qs ?_
   refine qg ?_
   refine og 1 [(0, (Value.slice OAa la.length oca)), (2, (Value.bool false)), (3, (ptr b1)), (4, (Value.int IntKind.u64 (IntKind.u64.wrap (sumR SSa)))), (5, (i64 ((ia : Nat) : Int))), (6, (ptr b28)), (7, (Value.bool true)), (8, (i64 0)), (22, (Value.bool true))] 1 ?_
   refine od ?_
   refine q_block (id := 2) (by kernel_rfl) ?_
   refine q_keep (R := [(0, (Value.slice OAa la.length oca)), (2, (Value.bool false)), (3, (ptr b1)), (4, (Value.int IntKind.u64 (IntKind.u64.wrap (sumR SSa)))), (5, (i64 ((ia : Nat) : Int))), (6, (ptr b28)), (7, (Value.bool true)), (8, (i64 0)), (22, (Value.bool true))]) (by kernel_rfl) ?_
   refine q_loop (fun (gs : Nat × Bool) L (wx : World) => match gs with | (jj, oncb) => L = [(0, (Value.slice OAa la.length oca)), (2, (Value.bool false)), (3, (ptr b1)), (4, (Value.int IntKind.u64 (IntKind.u64.wrap (sumR SSa)))), (5, (i64 ((ia : Nat) : Int))), (6, (ptr b28)), (7, (Value.bool oncb)), (8, (i64 ((jj : Nat) : Int))), (22, (Value.bool true))] ∧ jj ≤ ia ∧ (oncb = true ↔ ∀ k y, k < jj → la[k]? = some y → ¬ SameP y xa) ∧ Keeps none_ w wx ∧ Tab Tryz.prog wx tb ∧ Has wx b1 (rowL [(Value.map (some mb2)), (Value.map (some kb3))] 54) ∧ HasMap wx mb2 kstr ki64 mma ∧ HasMap wx kb3 kpair keptv (KKa.map KeptM.kv) ∧ Has wx b28 (rowL [(i64 xa.kind), (Value.string (str xa.frm)), (Value.string (str xa.to)), (i64 xa.amount), (Value.string (str xa.key)), (i64 xa.slot), (i64 xa.shard)] 24)) (fun (gs : Nat × Bool) => match gs with | (jj, oncb) => ia - jj) (0, true) (by kernel_rfl) ⟨rfl, Nat.zero_le _, ⟨fun _ k y h => absurd h (Nat.not_lt_zero _), fun _ => rfl⟩, K16, H17, H18, H19, H20, H35⟩ ?_
   clear H17 H18 H19 H20 H35 K16
   rintro ⟨jj, oncb⟩ _ w37 ⟨rfl, hjj, hon, K38, H39, H40, H41, H42, H43⟩
   refine qs ?_
   refine qs ?_
   refine qg ?_
   refine og 3 [(0, (Value.slice OAa la.length oca)), (2, (Value.bool false)), (3, (ptr b1)), (4, (Value.int IntKind.u64 (IntKind.u64.wrap (sumR SSa)))), (5, (i64 ((ia : Nat) : Int))), (6, (ptr b28)), (7, (Value.bool oncb)), (8, (i64 ((jj : Nat) : Int))), (22, (Value.bool true)), (31, (Value.bool (decide (((jj : Nat) : Int) < ((ia : Nat) : Int)))))] 3 ?_
   refine od ?_
   refine q_cond (o := .tmp 31) (b := (decide (((jj : Nat) : Int) < ((ia : Nat) : Int)))) (by kernel_rfl) rfl (fun h44 => ?_) (fun h44 => ?_)
   ·rw [h44]
    have p45 : ((jj : Nat) : Int) < ((ia : Nat) : Int) := of_decide_eq_true h44
    obtain ⟨z, hz⟩ : ∃ y, la[jj]? = some y := ⟨_, List.getElem?_eq_getElem (by omega)⟩
    obtain ⟨rb46, ro47, hA48⟩ := Rd.addr (Rd.keep0 (by decide) hLa K38) (by omega)
    refine q_skip (by kernel_rfl) ?_
    refine qs ?_
    refine q_block (id := 3) (by kernel_rfl) ?_
    refine q_draw (fun wz => Keeps none_ w37 wz) 42 (by kernel_rfl) (by kernel_rfl) (by kernel_rfl) (fun w49 K50 _ _ => ⟨K50, ?_⟩)
    replace K38 := K38.trans K50 (U := none_) (fun i h1 h2 => h2) (fun i h1 h2 => by exact h2)
    replace H39 := H39.keep K50 (fun h => h)
    replace H40 := H40.keep K50 (fun h => h)
    replace H41 := H41.keep K50 (fun h => h)
    replace H42 := H42.keep K50 (fun h => h)
    replace H43 := H43.keep K50 (fun h => h)
    refine Dr.strong (S' := (fun wz => Keeps none_ w49 wz)) (Keeps.refl w49) (fun wz hx => K50.trans hx (fun i _ h => h) (fun _ _ h => h)) ?_
    clear K50
    refine Dr.takes (fuel' := 40) (is' := [1, 0]) [0, 1] [(0, (Value.slice OAa la.length oca)), (2, (Value.bool false)), (3, (ptr b1)), (4, (Value.int IntKind.u64 (IntKind.u64.wrap (sumR SSa)))), (5, (i64 ((ia : Nat) : Int))), (6, (ptr b28)), (7, (Value.bool oncb)), (8, (i64 ((jj : Nat) : Int))), (22, (Value.bool true)), (31, (Value.bool true)), (35, (Value.bool oncb))] (by kernel_rfl) rfl (by kernel_rfl) ?_
    refine Dr.split oncb (fun h51 => ?_) (fun h51 => ?_)
    ·rw [h51]
     have p52 : oncb = true := h51
     refine Dr.takes (fuel' := 38) (is' := [3, 2, 1, 0]) [2, 3] [(0, (Value.slice OAa la.length oca)), (2, (Value.bool false)), (3, (ptr b1)), (4, (Value.int IntKind.u64 (IntKind.u64.wrap (sumR SSa)))), (5, (i64 ((ia : Nat) : Int))), (6, (ptr b28)), (7, (Value.bool true)), (8, (i64 ((jj : Nat) : Int))), (22, (Value.bool true)), (31, (Value.bool true)), (35, (Value.bool true)), (36, (Value.slice OAa la.length oca)), (37, (i64 ((jj : Nat) : Int)))] (by kernel_rfl) rfl (by kernel_rfl) ?_
     refine Dr.take (i := 4) (v := (Value.pointer (some ⟨rb46, ro47 + jj * 7, none⟩))) (by kernel_rfl) (by kernel_rfl) (fun wz hS => Runs.ixSliceE (k := IntKind.i64) (t := 22) (len := la.length) (cap := oca) (s := 7) (off' := ro47 + jj * 7) (i := ((jj : Nat) : Int)) hA48 (by kernel_rfl) (by kernel_rfl) (by omega) (by omega) (by omega)) (d := (some 38)) (by kernel_rfl) rfl ?_
     refine Dr.takes (fuel' := 36) (is' := [5, 4, 3, 2, 1, 0]) [5] [(0, (Value.slice OAa la.length oca)), (2, (Value.bool false)), (3, (ptr b1)), (4, (Value.int IntKind.u64 (IntKind.u64.wrap (sumR SSa)))), (5, (i64 ((ia : Nat) : Int))), (6, (ptr b28)), (7, (Value.bool true)), (8, (i64 ((jj : Nat) : Int))), (22, (Value.bool true)), (31, (Value.bool true)), (35, (Value.bool true)), (39, (Value.pointer (some ⟨rb46, ro47 + jj * 7 + 1, none⟩)))] (by kernel_rfl) rfl (by kernel_rfl) ?_
     refine Dr.take (i := 6) (v := (Value.string (str z.frm))) (by kernel_rfl) (by kernel_rfl) (fun wz hS => Runs.load (t := 9) (a := ⟨rb46, ro47 + jj * 7 + 1, none⟩) (by kernel_rfl) (RdT.ldf (f := Opm.cells) (x := z) (o := 1) Opm.seven (Rd.keep0 (by decide) hLa (K38.trans hS (fun _ _ h => h) (fun _ _ h => h))) (by kernel_rfl) hA48 hz rfl)) (d := (some 40)) (by kernel_rfl) rfl ?_
     refine Dr.takes (fuel' := 34) (is' := [7, 6, 5, 4, 3, 2, 1, 0]) [7] [(0, (Value.slice OAa la.length oca)), (2, (Value.bool false)), (3, (ptr b1)), (4, (Value.int IntKind.u64 (IntKind.u64.wrap (sumR SSa)))), (5, (i64 ((ia : Nat) : Int))), (6, (ptr b28)), (7, (Value.bool true)), (8, (i64 ((jj : Nat) : Int))), (22, (Value.bool true)), (31, (Value.bool true)), (35, (Value.bool true)), (40, (Value.string (str z.frm))), (41, (Value.pointer (some ⟨b28, 1, none⟩)))] (by kernel_rfl) rfl (by kernel_rfl) ?_
     refine Dr.take (i := 8) (v := (Value.string (str xa.frm))) (by kernel_rfl) (by kernel_rfl) (fun wz hS => Runs.load (t := 9) (a := ⟨b28, 1, none⟩) (by kernel_rfl) ((H43.keep hS (fun h => h)).loads (by kernel_rfl))) (d := (some 42)) (by kernel_rfl) rfl ?_
     refine Dr.take (i := 9) (v := (Value.bool (!(z.frm == xa.frm)))) (by kernel_rfl) (by kernel_rfl) (fun wz hS => Runs.strne (t := 9) (by kernel_rfl)) (d := (some 43)) (by kernel_rfl) rfl ?_
     refine Dr.takes (fuel' := 31) (is' := [10, 9, 8, 7, 6, 5, 4, 3, 2, 1, 0]) [10] [(0, (Value.slice OAa la.length oca)), (2, (Value.bool false)), (3, (ptr b1)), (4, (Value.int IntKind.u64 (IntKind.u64.wrap (sumR SSa)))), (5, (i64 ((ia : Nat) : Int))), (6, (ptr b28)), (7, (Value.bool true)), (8, (i64 ((jj : Nat) : Int))), (22, (Value.bool true)), (31, (Value.bool true)), (35, (Value.bool true)), (44, (Value.bool (!(z.frm == xa.frm))))] (by kernel_rfl) rfl (by kernel_rfl) ?_
     refine Dr.split (!(z.frm == xa.frm)) (fun h53 => ?_) (fun h53 => ?_)
     ·rw [h53]
      have p54 : (z.frm == xa.frm) = false := (bnot_true h53)
      refine Dr.takes (fuel' := 0) (is' := [41, 40, 39, 38, 37, 36, 35, 34, 33, 32, 31, 30, 29, 28, 27, 26, 25, 24, 23, 22, 21, 20, 19, 18, 17, 16, 15, 14, 13, 12, 11, 10, 9, 8, 7, 6, 5, 4, 3, 2, 1, 0]) [11, 12, 13, 14, 15, 16, 17, 18, 19, 20, 21, 22, 23, 24, 25, 26, 27, 28, 29, 30, 31, 32, 33, 34, 35, 36, 37, 38, 39, 40, 41] [(0, (Value.slice OAa la.length oca)), (2, (Value.bool false)), (3, (ptr b1)), (4, (Value.int IntKind.u64 (IntKind.u64.wrap (sumR SSa)))), (5, (i64 ((ia : Nat) : Int))), (6, (ptr b28)), (7, (Value.bool true)), (8, (i64 ((jj : Nat) : Int))), (22, (Value.bool true)), (31, (Value.bool true))] (by kernel_rfl) rfl (by kernel_rfl) ?_
      refine Dr.done (by kernel_rfl) ?_
      refine qg ?_
      refine og 2 [(0, (Value.slice OAa la.length oca)), (2, (Value.bool false)), (3, (ptr b1)), (4, (Value.int IntKind.u64 (IntKind.u64.wrap (sumR SSa)))), (5, (i64 ((ia : Nat) : Int))), (6, (ptr b28)), (7, (Value.bool true)), (8, (i64 ((jj : Nat) : Int))), (22, (Value.bool true)), (31, (Value.bool true)), (33, (i64 (IntKind.i64.wrap (((jj : Nat) : Int) + 1))))] 2 ?_
      have e55 : IntKind.i64.wrap (((jj : Nat) : Int) + 1) = ((jj + 1 : Nat) : Int) := by rw [wrap_i64 (by omega) (by omega)]; omega
      rw [e55]
      clear e55
      refine og 1 [(0, (Value.slice OAa la.length oca)), (2, (Value.bool false)), (3, (ptr b1)), (4, (Value.int IntKind.u64 (IntKind.u64.wrap (sumR SSa)))), (5, (i64 ((ia : Nat) : Int))), (6, (ptr b28)), (7, (Value.bool true)), (8, (i64 ((jj + 1 : Nat) : Int))), (22, (Value.bool true)), (31, (Value.bool true))] 3 ?_
      refine Ops.keep (R := [(0, (Value.slice OAa la.length oca)), (2, (Value.bool false)), (3, (ptr b1)), (4, (Value.int IntKind.u64 (IntKind.u64.wrap (sumR SSa)))), (5, (i64 ((ia : Nat) : Int))), (6, (ptr b28)), (7, (Value.bool true)), (8, (i64 ((jj + 1 : Nat) : Int))), (22, (Value.bool true))]) (by kernel_rfl) ?_
      refine od ?_
      exact ⟨(jj + 1, true), ⟨rfl, (by omega), (once_step hz hon (by unfold SameP; first | (simp_all; done) | (simp_all; omega))), K38, H39, H40, H41, H42, H43⟩, (show ia - (jj + 1) < ia - jj from by omega)⟩
     ·rw [h53]
      have p56 : (z.frm == xa.frm) = true := (bnot_false h53)
      refine Dr.takes (fuel' := 29) (is' := [12, 11, 10, 9, 8, 7, 6, 5, 4, 3, 2, 1, 0]) [11, 12] [(0, (Value.slice OAa la.length oca)), (2, (Value.bool false)), (3, (ptr b1)), (4, (Value.int IntKind.u64 (IntKind.u64.wrap (sumR SSa)))), (5, (i64 ((ia : Nat) : Int))), (6, (ptr b28)), (7, (Value.bool true)), (8, (i64 ((jj : Nat) : Int))), (22, (Value.bool true)), (31, (Value.bool true)), (35, (Value.bool true)), (44, (Value.bool false)), (45, (Value.slice OAa la.length oca)), (46, (i64 ((jj : Nat) : Int)))] (by kernel_rfl) rfl (by kernel_rfl) ?_
      refine Dr.take (i := 13) (v := (Value.pointer (some ⟨rb46, ro47 + jj * 7, none⟩))) (by kernel_rfl) (by kernel_rfl) (fun wz hS => Runs.ixSliceE (k := IntKind.i64) (t := 22) (len := la.length) (cap := oca) (s := 7) (off' := ro47 + jj * 7) (i := ((jj : Nat) : Int)) hA48 (by kernel_rfl) (by kernel_rfl) (by omega) (by omega) (by omega)) (d := (some 47)) (by kernel_rfl) rfl ?_
      refine Dr.takes (fuel' := 27) (is' := [14, 13, 12, 11, 10, 9, 8, 7, 6, 5, 4, 3, 2, 1, 0]) [14] [(0, (Value.slice OAa la.length oca)), (2, (Value.bool false)), (3, (ptr b1)), (4, (Value.int IntKind.u64 (IntKind.u64.wrap (sumR SSa)))), (5, (i64 ((ia : Nat) : Int))), (6, (ptr b28)), (7, (Value.bool true)), (8, (i64 ((jj : Nat) : Int))), (22, (Value.bool true)), (31, (Value.bool true)), (35, (Value.bool true)), (44, (Value.bool false)), (48, (Value.pointer (some ⟨rb46, ro47 + jj * 7 + 4, none⟩)))] (by kernel_rfl) rfl (by kernel_rfl) ?_
      refine Dr.take (i := 15) (v := (Value.string (str z.key))) (by kernel_rfl) (by kernel_rfl) (fun wz hS => Runs.load (t := 9) (a := ⟨rb46, ro47 + jj * 7 + 4, none⟩) (by kernel_rfl) (RdT.ldf (f := Opm.cells) (x := z) (o := 4) Opm.seven (Rd.keep0 (by decide) hLa (K38.trans hS (fun _ _ h => h) (fun _ _ h => h))) (by kernel_rfl) hA48 hz rfl)) (d := (some 49)) (by kernel_rfl) rfl ?_
      refine Dr.takes (fuel' := 25) (is' := [16, 15, 14, 13, 12, 11, 10, 9, 8, 7, 6, 5, 4, 3, 2, 1, 0]) [16] [(0, (Value.slice OAa la.length oca)), (2, (Value.bool false)), (3, (ptr b1)), (4, (Value.int IntKind.u64 (IntKind.u64.wrap (sumR SSa)))), (5, (i64 ((ia : Nat) : Int))), (6, (ptr b28)), (7, (Value.bool true)), (8, (i64 ((jj : Nat) : Int))), (22, (Value.bool true)), (31, (Value.bool true)), (35, (Value.bool true)), (44, (Value.bool false)), (49, (Value.string (str z.key))), (50, (Value.pointer (some ⟨b28, 4, none⟩)))] (by kernel_rfl) rfl (by kernel_rfl) ?_
      refine Dr.take (i := 17) (v := (Value.string (str xa.key))) (by kernel_rfl) (by kernel_rfl) (fun wz hS => Runs.load (t := 9) (a := ⟨b28, 4, none⟩) (by kernel_rfl) ((H43.keep hS (fun h => h)).loads (by kernel_rfl))) (d := (some 51)) (by kernel_rfl) rfl ?_
      refine Dr.take (i := 18) (v := (Value.bool (!(z.key == xa.key)))) (by kernel_rfl) (by kernel_rfl) (fun wz hS => Runs.strne (t := 9) (by kernel_rfl)) (d := (some 52)) (by kernel_rfl) rfl ?_
      refine Dr.takes (fuel' := 21) (is' := [20, 19, 18, 17, 16, 15, 14, 13, 12, 11, 10, 9, 8, 7, 6, 5, 4, 3, 2, 1, 0]) [19, 20] [(0, (Value.slice OAa la.length oca)), (2, (Value.bool false)), (3, (ptr b1)), (4, (Value.int IntKind.u64 (IntKind.u64.wrap (sumR SSa)))), (5, (i64 ((ia : Nat) : Int))), (6, (ptr b28)), (7, (Value.bool true)), (8, (i64 ((jj : Nat) : Int))), (22, (Value.bool true)), (31, (Value.bool true)), (35, (Value.bool true)), (54, (Value.bool (!(z.key == xa.key))))] (by kernel_rfl) rfl (by kernel_rfl) ?_
      refine Dr.split (!(z.key == xa.key)) (fun h57 => ?_) (fun h57 => ?_)
      ·rw [h57]
       have p58 : (z.key == xa.key) = false := (bnot_true h57)
       refine Dr.takes (fuel' := 0) (is' := [41, 40, 39, 38, 37, 36, 35, 34, 33, 32, 31, 30, 29, 28, 27, 26, 25, 24, 23, 22, 21, 20, 19, 18, 17, 16, 15, 14, 13, 12, 11, 10, 9, 8, 7, 6, 5, 4, 3, 2, 1, 0]) [21, 22, 23, 24, 25, 26, 27, 28, 29, 30, 31, 32, 33, 34, 35, 36, 37, 38, 39, 40, 41] [(0, (Value.slice OAa la.length oca)), (2, (Value.bool false)), (3, (ptr b1)), (4, (Value.int IntKind.u64 (IntKind.u64.wrap (sumR SSa)))), (5, (i64 ((ia : Nat) : Int))), (6, (ptr b28)), (7, (Value.bool true)), (8, (i64 ((jj : Nat) : Int))), (22, (Value.bool true)), (31, (Value.bool true))] (by kernel_rfl) rfl (by kernel_rfl) ?_
       refine Dr.done (by kernel_rfl) ?_
       refine qg ?_
       refine og 2 [(0, (Value.slice OAa la.length oca)), (2, (Value.bool false)), (3, (ptr b1)), (4, (Value.int IntKind.u64 (IntKind.u64.wrap (sumR SSa)))), (5, (i64 ((ia : Nat) : Int))), (6, (ptr b28)), (7, (Value.bool true)), (8, (i64 ((jj : Nat) : Int))), (22, (Value.bool true)), (31, (Value.bool true)), (33, (i64 (IntKind.i64.wrap (((jj : Nat) : Int) + 1))))] 2 ?_
       have e59 : IntKind.i64.wrap (((jj : Nat) : Int) + 1) = ((jj + 1 : Nat) : Int) := by rw [wrap_i64 (by omega) (by omega)]; omega
       rw [e59]
       clear e59
       refine og 1 [(0, (Value.slice OAa la.length oca)), (2, (Value.bool false)), (3, (ptr b1)), (4, (Value.int IntKind.u64 (IntKind.u64.wrap (sumR SSa)))), (5, (i64 ((ia : Nat) : Int))), (6, (ptr b28)), (7, (Value.bool true)), (8, (i64 ((jj + 1 : Nat) : Int))), (22, (Value.bool true)), (31, (Value.bool true))] 3 ?_
       refine Ops.keep (R := [(0, (Value.slice OAa la.length oca)), (2, (Value.bool false)), (3, (ptr b1)), (4, (Value.int IntKind.u64 (IntKind.u64.wrap (sumR SSa)))), (5, (i64 ((ia : Nat) : Int))), (6, (ptr b28)), (7, (Value.bool true)), (8, (i64 ((jj + 1 : Nat) : Int))), (22, (Value.bool true))]) (by kernel_rfl) ?_
       refine od ?_
       exact ⟨(jj + 1, true), ⟨rfl, (by omega), (once_step hz hon (by unfold SameP; first | (simp_all; done) | (simp_all; omega))), K38, H39, H40, H41, H42, H43⟩, (show ia - (jj + 1) < ia - jj from by omega)⟩
      ·rw [h57]
       have p60 : (z.key == xa.key) = true := (bnot_false h57)
       refine Dr.takes (fuel' := 19) (is' := [22, 21, 20, 19, 18, 17, 16, 15, 14, 13, 12, 11, 10, 9, 8, 7, 6, 5, 4, 3, 2, 1, 0]) [21, 22] [(0, (Value.slice OAa la.length oca)), (2, (Value.bool false)), (3, (ptr b1)), (4, (Value.int IntKind.u64 (IntKind.u64.wrap (sumR SSa)))), (5, (i64 ((ia : Nat) : Int))), (6, (ptr b28)), (7, (Value.bool true)), (8, (i64 ((jj : Nat) : Int))), (22, (Value.bool true)), (31, (Value.bool true)), (35, (Value.bool true)), (54, (Value.bool false)), (55, (Value.slice OAa la.length oca)), (56, (i64 ((jj : Nat) : Int)))] (by kernel_rfl) rfl (by kernel_rfl) ?_
       refine Dr.take (i := 23) (v := (Value.pointer (some ⟨rb46, ro47 + jj * 7, none⟩))) (by kernel_rfl) (by kernel_rfl) (fun wz hS => Runs.ixSliceE (k := IntKind.i64) (t := 22) (len := la.length) (cap := oca) (s := 7) (off' := ro47 + jj * 7) (i := ((jj : Nat) : Int)) hA48 (by kernel_rfl) (by kernel_rfl) (by omega) (by omega) (by omega)) (d := (some 57)) (by kernel_rfl) rfl ?_
       refine Dr.takes (fuel' := 17) (is' := [24, 23, 22, 21, 20, 19, 18, 17, 16, 15, 14, 13, 12, 11, 10, 9, 8, 7, 6, 5, 4, 3, 2, 1, 0]) [24] [(0, (Value.slice OAa la.length oca)), (2, (Value.bool false)), (3, (ptr b1)), (4, (Value.int IntKind.u64 (IntKind.u64.wrap (sumR SSa)))), (5, (i64 ((ia : Nat) : Int))), (6, (ptr b28)), (7, (Value.bool true)), (8, (i64 ((jj : Nat) : Int))), (22, (Value.bool true)), (31, (Value.bool true)), (35, (Value.bool true)), (54, (Value.bool false)), (58, (Value.pointer (some ⟨rb46, ro47 + jj * 7, none⟩)))] (by kernel_rfl) rfl (by kernel_rfl) ?_
       refine Dr.take (i := 25) (v := (i64 z.kind)) (by kernel_rfl) (by kernel_rfl) (fun wz hS => Runs.load (t := 3) (a := ⟨rb46, ro47 + jj * 7, none⟩) (by kernel_rfl) (RdT.ldf (f := Opm.cells) (x := z) (o := 0) Opm.seven (Rd.keep0 (by decide) hLa (K38.trans hS (fun _ _ h => h) (fun _ _ h => h))) (by kernel_rfl) hA48 hz rfl)) (d := (some 59)) (by kernel_rfl) rfl ?_
       refine Dr.takes (fuel' := 15) (is' := [26, 25, 24, 23, 22, 21, 20, 19, 18, 17, 16, 15, 14, 13, 12, 11, 10, 9, 8, 7, 6, 5, 4, 3, 2, 1, 0]) [26] [(0, (Value.slice OAa la.length oca)), (2, (Value.bool false)), (3, (ptr b1)), (4, (Value.int IntKind.u64 (IntKind.u64.wrap (sumR SSa)))), (5, (i64 ((ia : Nat) : Int))), (6, (ptr b28)), (7, (Value.bool true)), (8, (i64 ((jj : Nat) : Int))), (22, (Value.bool true)), (31, (Value.bool true)), (35, (Value.bool true)), (54, (Value.bool false)), (59, (i64 z.kind)), (60, (ptr b28))] (by kernel_rfl) rfl (by kernel_rfl) ?_
       refine Dr.take (i := 27) (v := (i64 xa.kind)) (by kernel_rfl) (by kernel_rfl) (fun wz hS => Runs.load (t := 3) (a := ⟨b28, 0, none⟩) (by kernel_rfl) ((H43.keep hS (fun h => h)).loads (by kernel_rfl))) (d := (some 61)) (by kernel_rfl) rfl ?_
       refine Dr.takes (fuel' := 11) (is' := [30, 29, 28, 27, 26, 25, 24, 23, 22, 21, 20, 19, 18, 17, 16, 15, 14, 13, 12, 11, 10, 9, 8, 7, 6, 5, 4, 3, 2, 1, 0]) [28, 29, 30] [(0, (Value.slice OAa la.length oca)), (2, (Value.bool false)), (3, (ptr b1)), (4, (Value.int IntKind.u64 (IntKind.u64.wrap (sumR SSa)))), (5, (i64 ((ia : Nat) : Int))), (6, (ptr b28)), (7, (Value.bool true)), (8, (i64 ((jj : Nat) : Int))), (22, (Value.bool true)), (31, (Value.bool true)), (35, (Value.bool true)), (64, (Value.bool (z.kind != xa.kind)))] (by kernel_rfl) rfl (by kernel_rfl) ?_
       refine Dr.split (z.kind != xa.kind) (fun h61 => ?_) (fun h61 => ?_)
       ·rw [h61]
        have p62 : ¬ (z.kind = xa.kind) := of_bne_t h61
        refine Dr.takes (fuel' := 0) (is' := [41, 40, 39, 38, 37, 36, 35, 34, 33, 32, 31, 30, 29, 28, 27, 26, 25, 24, 23, 22, 21, 20, 19, 18, 17, 16, 15, 14, 13, 12, 11, 10, 9, 8, 7, 6, 5, 4, 3, 2, 1, 0]) [31, 32, 33, 34, 35, 36, 37, 38, 39, 40, 41] [(0, (Value.slice OAa la.length oca)), (2, (Value.bool false)), (3, (ptr b1)), (4, (Value.int IntKind.u64 (IntKind.u64.wrap (sumR SSa)))), (5, (i64 ((ia : Nat) : Int))), (6, (ptr b28)), (7, (Value.bool true)), (8, (i64 ((jj : Nat) : Int))), (22, (Value.bool true)), (31, (Value.bool true))] (by kernel_rfl) rfl (by kernel_rfl) ?_
        refine Dr.done (by kernel_rfl) ?_
        refine qg ?_
        refine og 2 [(0, (Value.slice OAa la.length oca)), (2, (Value.bool false)), (3, (ptr b1)), (4, (Value.int IntKind.u64 (IntKind.u64.wrap (sumR SSa)))), (5, (i64 ((ia : Nat) : Int))), (6, (ptr b28)), (7, (Value.bool true)), (8, (i64 ((jj : Nat) : Int))), (22, (Value.bool true)), (31, (Value.bool true)), (33, (i64 (IntKind.i64.wrap (((jj : Nat) : Int) + 1))))] 2 ?_
        have e63 : IntKind.i64.wrap (((jj : Nat) : Int) + 1) = ((jj + 1 : Nat) : Int) := by rw [wrap_i64 (by omega) (by omega)]; omega
        rw [e63]
        clear e63
        refine og 1 [(0, (Value.slice OAa la.length oca)), (2, (Value.bool false)), (3, (ptr b1)), (4, (Value.int IntKind.u64 (IntKind.u64.wrap (sumR SSa)))), (5, (i64 ((ia : Nat) : Int))), (6, (ptr b28)), (7, (Value.bool true)), (8, (i64 ((jj + 1 : Nat) : Int))), (22, (Value.bool true)), (31, (Value.bool true))] 3 ?_
        refine Ops.keep (R := [(0, (Value.slice OAa la.length oca)), (2, (Value.bool false)), (3, (ptr b1)), (4, (Value.int IntKind.u64 (IntKind.u64.wrap (sumR SSa)))), (5, (i64 ((ia : Nat) : Int))), (6, (ptr b28)), (7, (Value.bool true)), (8, (i64 ((jj + 1 : Nat) : Int))), (22, (Value.bool true))]) (by kernel_rfl) ?_
        refine od ?_
        exact ⟨(jj + 1, true), ⟨rfl, (by omega), (once_step hz hon (by unfold SameP; first | (simp_all; done) | (simp_all; omega))), K38, H39, H40, H41, H42, H43⟩, (show ia - (jj + 1) < ia - jj from by omega)⟩
       ·rw [h61]
        have p64 : z.kind = xa.kind := of_bne_f h61
        refine Dr.takes (fuel' := 9) (is' := [32, 31, 30, 29, 28, 27, 26, 25, 24, 23, 22, 21, 20, 19, 18, 17, 16, 15, 14, 13, 12, 11, 10, 9, 8, 7, 6, 5, 4, 3, 2, 1, 0]) [31, 32] [(0, (Value.slice OAa la.length oca)), (2, (Value.bool false)), (3, (ptr b1)), (4, (Value.int IntKind.u64 (IntKind.u64.wrap (sumR SSa)))), (5, (i64 ((ia : Nat) : Int))), (6, (ptr b28)), (7, (Value.bool true)), (8, (i64 ((jj : Nat) : Int))), (22, (Value.bool true)), (31, (Value.bool true)), (35, (Value.bool true)), (64, (Value.bool false)), (65, (Value.slice OAa la.length oca)), (66, (i64 ((jj : Nat) : Int)))] (by kernel_rfl) rfl (by kernel_rfl) ?_
        refine Dr.take (i := 33) (v := (Value.pointer (some ⟨rb46, ro47 + jj * 7, none⟩))) (by kernel_rfl) (by kernel_rfl) (fun wz hS => Runs.ixSliceE (k := IntKind.i64) (t := 22) (len := la.length) (cap := oca) (s := 7) (off' := ro47 + jj * 7) (i := ((jj : Nat) : Int)) hA48 (by kernel_rfl) (by kernel_rfl) (by omega) (by omega) (by omega)) (d := (some 67)) (by kernel_rfl) rfl ?_
        refine Dr.takes (fuel' := 7) (is' := [34, 33, 32, 31, 30, 29, 28, 27, 26, 25, 24, 23, 22, 21, 20, 19, 18, 17, 16, 15, 14, 13, 12, 11, 10, 9, 8, 7, 6, 5, 4, 3, 2, 1, 0]) [34] [(0, (Value.slice OAa la.length oca)), (2, (Value.bool false)), (3, (ptr b1)), (4, (Value.int IntKind.u64 (IntKind.u64.wrap (sumR SSa)))), (5, (i64 ((ia : Nat) : Int))), (6, (ptr b28)), (7, (Value.bool true)), (8, (i64 ((jj : Nat) : Int))), (22, (Value.bool true)), (31, (Value.bool true)), (35, (Value.bool true)), (64, (Value.bool false)), (68, (Value.pointer (some ⟨rb46, ro47 + jj * 7 + 3, none⟩)))] (by kernel_rfl) rfl (by kernel_rfl) ?_
        refine Dr.take (i := 35) (v := (i64 z.amount)) (by kernel_rfl) (by kernel_rfl) (fun wz hS => Runs.load (t := 2) (a := ⟨rb46, ro47 + jj * 7 + 3, none⟩) (by kernel_rfl) (RdT.ldf (f := Opm.cells) (x := z) (o := 3) Opm.seven (Rd.keep0 (by decide) hLa (K38.trans hS (fun _ _ h => h) (fun _ _ h => h))) (by kernel_rfl) hA48 hz rfl)) (d := (some 69)) (by kernel_rfl) rfl ?_
        refine Dr.takes (fuel' := 5) (is' := [36, 35, 34, 33, 32, 31, 30, 29, 28, 27, 26, 25, 24, 23, 22, 21, 20, 19, 18, 17, 16, 15, 14, 13, 12, 11, 10, 9, 8, 7, 6, 5, 4, 3, 2, 1, 0]) [36] [(0, (Value.slice OAa la.length oca)), (2, (Value.bool false)), (3, (ptr b1)), (4, (Value.int IntKind.u64 (IntKind.u64.wrap (sumR SSa)))), (5, (i64 ((ia : Nat) : Int))), (6, (ptr b28)), (7, (Value.bool true)), (8, (i64 ((jj : Nat) : Int))), (22, (Value.bool true)), (31, (Value.bool true)), (35, (Value.bool true)), (64, (Value.bool false)), (69, (i64 z.amount)), (70, (Value.pointer (some ⟨b28, 3, none⟩)))] (by kernel_rfl) rfl (by kernel_rfl) ?_
        refine Dr.take (i := 37) (v := (i64 xa.amount)) (by kernel_rfl) (by kernel_rfl) (fun wz hS => Runs.load (t := 2) (a := ⟨b28, 3, none⟩) (by kernel_rfl) ((H43.keep hS (fun h => h)).loads (by kernel_rfl))) (d := (some 71)) (by kernel_rfl) rfl ?_
        refine Dr.takes (fuel' := 0) (is' := [41, 40, 39, 38, 37, 36, 35, 34, 33, 32, 31, 30, 29, 28, 27, 26, 25, 24, 23, 22, 21, 20, 19, 18, 17, 16, 15, 14, 13, 12, 11, 10, 9, 8, 7, 6, 5, 4, 3, 2, 1, 0]) [38, 39, 40, 41] [(0, (Value.slice OAa la.length oca)), (2, (Value.bool false)), (3, (ptr b1)), (4, (Value.int IntKind.u64 (IntKind.u64.wrap (sumR SSa)))), (5, (i64 ((ia : Nat) : Int))), (6, (ptr b28)), (7, (Value.bool (z.amount != xa.amount))), (8, (i64 ((jj : Nat) : Int))), (22, (Value.bool true)), (31, (Value.bool true))] (by kernel_rfl) rfl (by kernel_rfl) ?_
        refine Dr.done (by kernel_rfl) ?_
        refine qg ?_
        refine og 2 [(0, (Value.slice OAa la.length oca)), (2, (Value.bool false)), (3, (ptr b1)), (4, (Value.int IntKind.u64 (IntKind.u64.wrap (sumR SSa)))), (5, (i64 ((ia : Nat) : Int))), (6, (ptr b28)), (7, (Value.bool (z.amount != xa.amount))), (8, (i64 ((jj : Nat) : Int))), (22, (Value.bool true)), (31, (Value.bool true)), (33, (i64 (IntKind.i64.wrap (((jj : Nat) : Int) + 1))))] 2 ?_
        have e65 : IntKind.i64.wrap (((jj : Nat) : Int) + 1) = ((jj + 1 : Nat) : Int) := by rw [wrap_i64 (by omega) (by omega)]; omega
        rw [e65]
        clear e65
        refine og 1 [(0, (Value.slice OAa la.length oca)), (2, (Value.bool false)), (3, (ptr b1)), (4, (Value.int IntKind.u64 (IntKind.u64.wrap (sumR SSa)))), (5, (i64 ((ia : Nat) : Int))), (6, (ptr b28)), (7, (Value.bool (z.amount != xa.amount))), (8, (i64 ((jj + 1 : Nat) : Int))), (22, (Value.bool true)), (31, (Value.bool true))] 3 ?_
        refine Ops.keep (R := [(0, (Value.slice OAa la.length oca)), (2, (Value.bool false)), (3, (ptr b1)), (4, (Value.int IntKind.u64 (IntKind.u64.wrap (sumR SSa)))), (5, (i64 ((ia : Nat) : Int))), (6, (ptr b28)), (7, (Value.bool (z.amount != xa.amount))), (8, (i64 ((jj + 1 : Nat) : Int))), (22, (Value.bool true))]) (by kernel_rfl) ?_
        refine od ?_
        exact ⟨(jj + 1, (z.amount != xa.amount)), ⟨rfl, (by omega), (once_step hz hon (by unfold SameP; first | (simp_all; done) | (simp_all; omega))), K38, H39, H40, H41, H42, H43⟩, (show ia - (jj + 1) < ia - jj from by omega)⟩
    ·rw [h51]
     have p66 : oncb = false := h51
     refine Dr.takes (fuel' := 0) (is' := [41, 40, 39, 38, 37, 36, 35, 34, 33, 32, 31, 30, 29, 28, 27, 26, 25, 24, 23, 22, 21, 20, 19, 18, 17, 16, 15, 14, 13, 12, 11, 10, 9, 8, 7, 6, 5, 4, 3, 2, 1, 0]) [2, 3, 4, 5, 6, 7, 8, 9, 10, 11, 12, 13, 14, 15, 16, 17, 18, 19, 20, 21, 22, 23, 24, 25, 26, 27, 28, 29, 30, 31, 32, 33, 34, 35, 36, 37, 38, 39, 40, 41] [(0, (Value.slice OAa la.length oca)), (2, (Value.bool false)), (3, (ptr b1)), (4, (Value.int IntKind.u64 (IntKind.u64.wrap (sumR SSa)))), (5, (i64 ((ia : Nat) : Int))), (6, (ptr b28)), (7, (Value.bool false)), (8, (i64 ((jj : Nat) : Int))), (22, (Value.bool true)), (31, (Value.bool true))] (by kernel_rfl) rfl (by kernel_rfl) ?_
     refine Dr.done (by kernel_rfl) ?_
     refine qg ?_
     refine og 2 [(0, (Value.slice OAa la.length oca)), (2, (Value.bool false)), (3, (ptr b1)), (4, (Value.int IntKind.u64 (IntKind.u64.wrap (sumR SSa)))), (5, (i64 ((ia : Nat) : Int))), (6, (ptr b28)), (7, (Value.bool false)), (8, (i64 ((jj : Nat) : Int))), (22, (Value.bool true)), (31, (Value.bool true)), (33, (i64 (IntKind.i64.wrap (((jj : Nat) : Int) + 1))))] 2 ?_
     have e67 : IntKind.i64.wrap (((jj : Nat) : Int) + 1) = ((jj + 1 : Nat) : Int) := by rw [wrap_i64 (by omega) (by omega)]; omega
     rw [e67]
     clear e67
     refine og 1 [(0, (Value.slice OAa la.length oca)), (2, (Value.bool false)), (3, (ptr b1)), (4, (Value.int IntKind.u64 (IntKind.u64.wrap (sumR SSa)))), (5, (i64 ((ia : Nat) : Int))), (6, (ptr b28)), (7, (Value.bool false)), (8, (i64 ((jj + 1 : Nat) : Int))), (22, (Value.bool true)), (31, (Value.bool true))] 3 ?_
     refine Ops.keep (R := [(0, (Value.slice OAa la.length oca)), (2, (Value.bool false)), (3, (ptr b1)), (4, (Value.int IntKind.u64 (IntKind.u64.wrap (sumR SSa)))), (5, (i64 ((ia : Nat) : Int))), (6, (ptr b28)), (7, (Value.bool false)), (8, (i64 ((jj + 1 : Nat) : Int))), (22, (Value.bool true))]) (by kernel_rfl) ?_
     refine od ?_
     exact ⟨(jj + 1, false), ⟨rfl, (by omega), (once_step hz hon (by unfold SameP; first | (simp_all; done) | (simp_all; omega))), K38, H39, H40, H41, H42, H43⟩, (show ia - (jj + 1) < ia - jj from by omega)⟩
   ·rw [h44]
    have p68 : ¬ (((jj : Nat) : Int) < ((ia : Nat) : Int)) := of_decide_eq_false h44
    have hon2 : oncb = true ↔ ∀ k y, k < ia → la[k]? = some y → ¬ SameP y xa := by have e : jj = ia := (by omega); rw [e] at hon; exact hon
    refine q_exit (id := 2) (by kernel_rfl) ?_
    refine qs ?_
    refine qg ?_
    refine og 1 [(0, (Value.slice OAa la.length oca)), (2, (Value.bool false)), (3, (ptr b1)), (4, (Value.int IntKind.u64 (IntKind.u64.wrap (sumR SSa)))), (5, (i64 ((ia : Nat) : Int))), (6, (ptr b28)), (7, (Value.bool oncb)), (8, (i64 ((jj : Nat) : Int))), (22, (Value.bool true)), (31, (Value.bool false)), (75, (ptr b1))] 1 ?_
    refine Ops.go (v := (agg [(i64 xa.kind), (Value.string (str xa.frm)), (Value.string (str xa.to)), (i64 xa.amount), (Value.string (str xa.key)), (i64 xa.slot), (i64 xa.shard)])) (by kernel_rfl) (Runs.load (t := 24) (a := ⟨b28, 0, none⟩) (by kernel_rfl) (H43.loads (by kernel_rfl))) (d := (some 76)) (by kernel_rfl) rfl ?_
    refine Ops.call (by kernel_rfl) (d := (some 77)) (by kernel_rfl) (Do_calls _ b1 mb2 kb3 mma SSa KKa xa H40 H41 H42 (by omega) hBma (by first | omega | decide) (by first | omega | decide)) ?_
    rintro _ w72 ⟨m69, A70, c71, rfl, K73, Hm74, Hk75, hB76, hO77⟩
    have ob81 : ∀ i, ((Value.slice A70 ((doR SSa KKa xa).rows.length) c71)).ownBlock = some i → i ≠ tb := fun i hi => by have := (World.ownsRow.lt hO77 i hi).1; have := H39.lt; omega
    have ob82 : ∀ i, ((Value.slice A70 ((doR SSa KKa xa).rows.length) c71)).ownBlock = some i → i ≠ b1 := fun i hi => by have := (World.ownsRow.lt hO77 i hi).1; have := H40.lt; omega
    have ob83 : ∀ i, ((Value.slice A70 ((doR SSa KKa xa).rows.length) c71)).ownBlock = some i → i ≠ mb2 := fun i hi => by have := (World.ownsRow.lt hO77 i hi).1; have := H41.lt; omega
    have ob84 : ∀ i, ((Value.slice A70 ((doR SSa KKa xa).rows.length) c71)).ownBlock = some i → i ≠ kb3 := fun i hi => by have := (World.ownsRow.lt hO77 i hi).1; have := H42.lt; omega
    have ob85 : ∀ i, ((Value.slice A70 ((doR SSa KKa xa).rows.length) c71)).ownBlock = some i → i ≠ b28 := fun i hi => by have := (World.ownsRow.lt hO77 i hi).1; have := H43.lt; omega
    have O78 := own_base hO77 K38.size
    clear hO77
    have hl79 := hB76.ledg.le
    have hl80 := doK_len SSa KKa xa
    refine ⟨_, _, rfl, rfl, ?_⟩
    replace K38 := K38.trans K73 (U := none_) (fun i h1 h2 => h2) (fun i h1 h2 => by have h2 : i = mb2 ∨ i = kb3 := h2; exfalso; omega)
    replace H39 := H39.keep K73 (by intro h; change tb = mb2 ∨ tb = kb3 at h; omega)
    replace H40 := H40.keep K73 (by intro h; change b1 = mb2 ∨ b1 = kb3 at h; omega)
    replace H43 := H43.keep K73 (by intro h; change b28 = mb2 ∨ b28 = kb3 at h; omega)
    clear K73
    refine Ops.new (o := rowL [(i64 0), (i64 0), (Value.slice none 0 0)] 30) (V := fun b => (ptr b)) (by kernel_rfl) (d := (some 9)) (by kernel_rfl) (fun b => rfl) (fun b86 w87 hb88 H89 K90 hs91 => ?_)
    have lb86tb : tb < b86 := by have := H39.lt; omega
    have lb86b1 : b1 < b86 := by have := H40.lt; omega
    have lb86mb2 : mb2 < b86 := by have := Hm74.lt; omega
    have lb86kb3 : kb3 < b86 := by have := Hk75.lt; omega
    have lb86b28 : b28 < b86 := by have := H43.lt; omega
    have nb86 : w.heap.size ≤ b86 := by have := K38.size; omega
    have ob92 : ∀ i, ((Value.slice A70 ((doR SSa KKa xa).rows.length) c71)).ownBlock = some i → i < b86 := fun i hi => by have := (World.ownsRow.lt O78 i hi).2; omega
    replace K38 := K38.trans K90 (U := none_) (fun i h1 h2 => h2) (fun i h1 h2 => by exact h2)
    replace H39 := H39.keep K90 (fun h => h)
    replace H40 := H40.keep K90 (fun h => h)
    replace Hm74 := Hm74.keep K90 (fun h => h)
    replace Hk75 := Hk75.keep K90 (fun h => h)
    replace H43 := H43.keep K90 (fun h => h)
    replace O78 := own_keep0 O78 K90
    clear K90 hs91
    refine Ops.put (t := 30) (b := b86) (off := 0) (v := (agg [(i64 ((doR SSa KKa xa).why)), (i64 ((doR SSa KKa xa).amount)), (Value.slice A70 ((doR SSa KKa xa).rows.length) c71)])) (ys := [(i64 ((doR SSa KKa xa).why)), (i64 ((doR SSa KKa xa).amount)), (Value.slice A70 ((doR SSa KKa xa).rows.length) c71)]) (by kernel_rfl) (by kernel_rfl) H89 (by kernel_rfl) (d := none) (by kernel_rfl) rfl (fun w93 H94 K95 => ?_)
    clear H89
    replace K38 := K38.trans K95 (U := none_) (fun i h1 h2 => h2) (fun i h1 h2 => by have h2 : i = b86 := h2; exfalso; omega)
    replace H39 := H39.keep K95 (by intro h; change tb = b86 at h; omega)
    replace H40 := H40.keep K95 (by intro h; change b1 = b86 at h; omega)
    replace Hm74 := Hm74.keep K95 (by intro h; change mb2 = b86 at h; omega)
    replace Hk75 := Hk75.keep K95 (by intro h; change kb3 = b86 at h; omega)
    replace H43 := H43.keep K95 (by intro h; change b28 = b86 at h; omega)
    replace O78 := own_keep O78 K95 (fun i hi hs => by have hs : i = b86 := hs; have := ob92 i hi; omega)
    clear K95
    refine od ?_
    refine qs ?_
    refine qs ?_
    refine qg ?_
    refine og 1 [(0, (Value.slice OAa la.length oca)), (2, (Value.bool false)), (3, (ptr b1)), (4, (Value.int IntKind.u64 (IntKind.u64.wrap (sumR SSa)))), (5, (i64 ((ia : Nat) : Int))), (6, (ptr b28)), (7, (Value.bool oncb)), (8, (i64 ((jj : Nat) : Int))), (9, (ptr b86)), (22, (Value.bool true)), (31, (Value.bool false)), (78, (ptr b86))] 1 ?_
    refine Ops.go (v := (i64 ((doR SSa KKa xa).why))) (by kernel_rfl) (Runs.load (t := 27) (a := ⟨b86, 0, none⟩) (by kernel_rfl) (H94.loads (by kernel_rfl))) (d := (some 79)) (by kernel_rfl) rfl ?_
    refine og 2 [(0, (Value.slice OAa la.length oca)), (2, (Value.bool false)), (3, (ptr b1)), (4, (Value.int IntKind.u64 (IntKind.u64.wrap (sumR SSa)))), (5, (i64 ((ia : Nat) : Int))), (6, (ptr b28)), (7, (Value.bool oncb)), (8, (i64 ((jj : Nat) : Int))), (9, (ptr b86)), (22, (Value.bool true)), (31, (Value.bool false)), (81, (Value.bool (((doR SSa KKa xa).why) != 0)))] 4 ?_
    refine Ops.split (((doR SSa KKa xa).why) != 0) (fun h96 => ?_) (fun h96 => ?_)
    ·rw [h96]
     have p97 : ¬ ((doR SSa KKa xa).why = 0) := of_bne_t h96
     refine og 3 [(0, (Value.slice OAa la.length oca)), (2, (Value.bool false)), (3, (ptr b1)), (4, (Value.int IntKind.u64 (IntKind.u64.wrap (sumR SSa)))), (5, (i64 ((ia : Nat) : Int))), (6, (ptr b28)), (7, (Value.bool oncb)), (8, (i64 ((jj : Nat) : Int))), (9, (ptr b86)), (22, (Value.bool true)), (31, (Value.bool false)), (84, (Value.bool true))] 7 ?_
     refine od ?_
     refine q_then (o := .tmp 84) (by kernel_rfl) rfl ?_
     refine q_exit (id := 1) (by kernel_rfl) ?_
     refine qg ?_
     refine og 2 [(0, (Value.slice OAa la.length oca)), (2, (Value.bool false)), (3, (ptr b1)), (4, (Value.int IntKind.u64 (IntKind.u64.wrap (sumR SSa)))), (5, (i64 ((ia : Nat) : Int))), (6, (ptr b28)), (7, (Value.bool oncb)), (8, (i64 ((jj : Nat) : Int))), (9, (ptr b86)), (22, (Value.bool true)), (24, (i64 (IntKind.i64.wrap (((ia : Nat) : Int) + 1)))), (31, (Value.bool false)), (84, (Value.bool true))] 2 ?_
     have e98 : IntKind.i64.wrap (((ia : Nat) : Int) + 1) = ((ia + 1 : Nat) : Int) := by rw [wrap_i64 (by omega) (by omega)]; omega
     rw [e98]
     clear e98
     refine og 1 [(0, (Value.slice OAa la.length oca)), (2, (Value.bool false)), (3, (ptr b1)), (4, (Value.int IntKind.u64 (IntKind.u64.wrap (sumR SSa)))), (5, (i64 ((ia + 1 : Nat) : Int))), (6, (ptr b28)), (7, (Value.bool oncb)), (8, (i64 ((jj : Nat) : Int))), (9, (ptr b86)), (22, (Value.bool true)), (31, (Value.bool false)), (84, (Value.bool true))] 3 ?_
     have hsum : sumR (doS SSa KKa xa) = sumR SSa := sum_no p97
     have hs99 : IntKind.u64.wrap (sumR SSa) = IntKind.u64.wrap (sumR (doS SSa KKa xa)) := congrArg _ (by rw [hsum])
     rw [hs99]
     refine Ops.keep (R := [(0, (Value.slice OAa la.length oca)), (2, (Value.bool false)), (3, (ptr b1)), (4, (Value.int IntKind.u64 (IntKind.u64.wrap (sumR (doS SSa KKa xa))))), (5, (i64 ((ia + 1 : Nat) : Int)))]) (by kernel_rfl) ?_
     refine od ?_
     exact ⟨(ia + 1, m69, (doS SSa KKa xa), (doK SSa KKa xa)), ⟨rfl, (by omega), hB76, (by omega), (hinv.step hxa), K38, H39, H40, Hm74, Hk75⟩, (show 120 - (ia + 1) < 120 - ia from by omega)⟩
    ·rw [h96]
     have p100 : (doR SSa KKa xa).why = 0 := of_bne_f h96
     refine og 3 [(0, (Value.slice OAa la.length oca)), (2, (Value.bool false)), (3, (ptr b1)), (4, (Value.int IntKind.u64 (IntKind.u64.wrap (sumR SSa)))), (5, (i64 ((ia : Nat) : Int))), (6, (ptr b28)), (7, (Value.bool oncb)), (8, (i64 ((jj : Nat) : Int))), (9, (ptr b86)), (22, (Value.bool true)), (31, (Value.bool false)), (84, (Value.bool (!oncb)))] 7 ?_
     refine od ?_
     refine q_cond (o := .tmp 84) (b := (!oncb)) (by kernel_rfl) rfl (fun h101 => ?_) (fun h101 => ?_)
     ·rw [h101]
      have p102 : oncb = false := (bnot_true h101)
      try rw [p102]
      refine q_exit (id := 1) (by kernel_rfl) ?_
      refine qg ?_
      refine og 2 [(0, (Value.slice OAa la.length oca)), (2, (Value.bool false)), (3, (ptr b1)), (4, (Value.int IntKind.u64 (IntKind.u64.wrap (sumR SSa)))), (5, (i64 ((ia : Nat) : Int))), (6, (ptr b28)), (7, (Value.bool false)), (8, (i64 ((jj : Nat) : Int))), (9, (ptr b86)), (22, (Value.bool true)), (24, (i64 (IntKind.i64.wrap (((ia : Nat) : Int) + 1)))), (31, (Value.bool false)), (84, (Value.bool true))] 2 ?_
      have e103 : IntKind.i64.wrap (((ia : Nat) : Int) + 1) = ((ia + 1 : Nat) : Int) := by rw [wrap_i64 (by omega) (by omega)]; omega
      rw [e103]
      clear e103
      refine og 1 [(0, (Value.slice OAa la.length oca)), (2, (Value.bool false)), (3, (ptr b1)), (4, (Value.int IntKind.u64 (IntKind.u64.wrap (sumR SSa)))), (5, (i64 ((ia + 1 : Nat) : Int))), (6, (ptr b28)), (7, (Value.bool false)), (8, (i64 ((jj : Nat) : Int))), (9, (ptr b86)), (22, (Value.bool true)), (31, (Value.bool false)), (84, (Value.bool true))] 3 ?_
      have hsum : sumR (doS SSa KKa xa) = sumR SSa := sum_twice hBma.ledg.led hinv (fun q => by have h := (bnot_true h101); rw [hon2.2 q] at h; cases h)
      have hs104 : IntKind.u64.wrap (sumR SSa) = IntKind.u64.wrap (sumR (doS SSa KKa xa)) := congrArg _ (by rw [hsum])
      rw [hs104]
      refine Ops.keep (R := [(0, (Value.slice OAa la.length oca)), (2, (Value.bool false)), (3, (ptr b1)), (4, (Value.int IntKind.u64 (IntKind.u64.wrap (sumR (doS SSa KKa xa))))), (5, (i64 ((ia + 1 : Nat) : Int)))]) (by kernel_rfl) ?_
      refine od ?_
      exact ⟨(ia + 1, m69, (doS SSa KKa xa), (doK SSa KKa xa)), ⟨rfl, (by omega), hB76, (by omega), (hinv.step hxa), K38, H39, H40, Hm74, Hk75⟩, (show 120 - (ia + 1) < 120 - ia from by omega)⟩
     ·rw [h101]
      have p105 : oncb = true := (bnot_false h101)
      try rw [p105]
      refine q_skip (by kernel_rfl) ?_
      refine qs ?_
      refine qs ?_
      refine qg ?_
      refine og 1 [(0, (Value.slice OAa la.length oca)), (2, (Value.bool false)), (3, (ptr b1)), (4, (Value.int IntKind.u64 (IntKind.u64.wrap (sumR SSa)))), (5, (i64 ((ia : Nat) : Int))), (6, (ptr b28)), (7, (Value.bool true)), (8, (i64 ((jj : Nat) : Int))), (9, (ptr b86)), (22, (Value.bool true)), (31, (Value.bool false)), (84, (Value.bool false)), (85, (ptr b28))] 1 ?_
      refine Ops.go (v := (i64 xa.kind)) (by kernel_rfl) (Runs.load (t := 3) (a := ⟨b28, 0, none⟩) (by kernel_rfl) (H43.loads (by kernel_rfl))) (d := (some 86)) (by kernel_rfl) rfl ?_
      refine og 1 [(0, (Value.slice OAa la.length oca)), (2, (Value.bool false)), (3, (ptr b1)), (4, (Value.int IntKind.u64 (IntKind.u64.wrap (sumR SSa)))), (5, (i64 ((ia : Nat) : Int))), (6, (ptr b28)), (7, (Value.bool true)), (8, (i64 ((jj : Nat) : Int))), (9, (ptr b86)), (22, (Value.bool true)), (31, (Value.bool false)), (84, (Value.bool false)), (87, (Value.bool (xa.kind == 2)))] 3 ?_
      refine od ?_
      refine q_cond (o := .tmp 87) (b := (xa.kind == 2)) (by kernel_rfl) rfl (fun h106 => ?_) (fun h106 => ?_)
      ·rw [h106]
       have p107 : xa.kind = 2 := of_beq_t h106
       refine qg ?_
       refine og 2 [(0, (Value.slice OAa la.length oca)), (2, (Value.bool false)), (3, (ptr b1)), (4, (Value.int IntKind.u64 (IntKind.u64.wrap (sumR SSa)))), (5, (i64 ((ia : Nat) : Int))), (6, (ptr b28)), (7, (Value.bool true)), (8, (i64 ((jj : Nat) : Int))), (9, (ptr b86)), (22, (Value.bool true)), (31, (Value.bool false)), (84, (Value.bool false)), (87, (Value.bool true)), (88, (Value.int IntKind.u64 (IntKind.u64.wrap (sumR SSa)))), (89, (Value.pointer (some ⟨b28, 3, none⟩)))] 2 ?_
       refine Ops.go (v := (i64 xa.amount)) (by kernel_rfl) (Runs.load (t := 2) (a := ⟨b28, 3, none⟩) (by kernel_rfl) (H43.loads (by kernel_rfl))) (d := (some 90)) (by kernel_rfl) rfl ?_
       refine og 2 [(0, (Value.slice OAa la.length oca)), (2, (Value.bool false)), (3, (ptr b1)), (4, (Value.int IntKind.u64 (IntKind.u64.wrap (sumR SSa)))), (5, (i64 ((ia : Nat) : Int))), (6, (ptr b28)), (7, (Value.bool true)), (8, (i64 ((jj : Nat) : Int))), (9, (ptr b86)), (22, (Value.bool true)), (31, (Value.bool false)), (84, (Value.bool false)), (87, (Value.bool true)), (92, (Value.int IntKind.u64 (IntKind.u64.wrap ((IntKind.u64.wrap (sumR SSa)) + (IntKind.u64.wrap xa.amount)))))] 5 ?_
       have e108 : IntKind.u64.wrap ((IntKind.u64.wrap (sumR SSa)) + (IntKind.u64.wrap xa.amount)) = IntKind.u64.wrap ((sumR SSa) + xa.amount) := wrapU_add _ _
       rw [e108]
       clear e108
       refine og 1 [(0, (Value.slice OAa la.length oca)), (2, (Value.bool false)), (3, (ptr b1)), (4, (Value.int IntKind.u64 (IntKind.u64.wrap ((sumR SSa) + xa.amount)))), (5, (i64 ((ia : Nat) : Int))), (6, (ptr b28)), (7, (Value.bool true)), (8, (i64 ((jj : Nat) : Int))), (9, (ptr b86)), (22, (Value.bool true)), (31, (Value.bool false)), (84, (Value.bool false)), (87, (Value.bool true))] 6 ?_
       refine od ?_
       refine qs ?_
       refine qg ?_
       refine og 1 [(0, (Value.slice OAa la.length oca)), (2, (Value.bool false)), (3, (ptr b1)), (4, (Value.int IntKind.u64 (IntKind.u64.wrap ((sumR SSa) + xa.amount)))), (5, (i64 ((ia : Nat) : Int))), (6, (ptr b28)), (7, (Value.bool true)), (8, (i64 ((jj : Nat) : Int))), (9, (ptr b86)), (22, (Value.bool true)), (31, (Value.bool false)), (84, (Value.bool false)), (87, (Value.bool true)), (93, (ptr b28))] 1 ?_
       refine Ops.go (v := (i64 xa.kind)) (by kernel_rfl) (Runs.load (t := 3) (a := ⟨b28, 0, none⟩) (by kernel_rfl) (H43.loads (by kernel_rfl))) (d := (some 94)) (by kernel_rfl) rfl ?_
       refine og 1 [(0, (Value.slice OAa la.length oca)), (2, (Value.bool false)), (3, (ptr b1)), (4, (Value.int IntKind.u64 (IntKind.u64.wrap ((sumR SSa) + xa.amount)))), (5, (i64 ((ia : Nat) : Int))), (6, (ptr b28)), (7, (Value.bool true)), (8, (i64 ((jj : Nat) : Int))), (9, (ptr b86)), (22, (Value.bool true)), (31, (Value.bool false)), (84, (Value.bool false)), (87, (Value.bool true)), (95, (Value.bool (xa.kind == 3)))] 3 ?_
       refine od ?_
       refine q_cond (o := .tmp 95) (b := (xa.kind == 3)) (by kernel_rfl) rfl (fun h109 => ?_) (fun h109 => ?_)
       ·rw [h109]
        have p110 : xa.kind = 3 := of_beq_t h109
        refine qg ?_
        refine og 2 [(0, (Value.slice OAa la.length oca)), (2, (Value.bool false)), (3, (ptr b1)), (4, (Value.int IntKind.u64 (IntKind.u64.wrap ((sumR SSa) + xa.amount)))), (5, (i64 ((ia : Nat) : Int))), (6, (ptr b28)), (7, (Value.bool true)), (8, (i64 ((jj : Nat) : Int))), (9, (ptr b86)), (22, (Value.bool true)), (31, (Value.bool false)), (84, (Value.bool false)), (87, (Value.bool true)), (95, (Value.bool true)), (96, (Value.int IntKind.u64 (IntKind.u64.wrap ((sumR SSa) + xa.amount)))), (97, (Value.pointer (some ⟨b28, 3, none⟩)))] 2 ?_
        refine Ops.go (v := (i64 xa.amount)) (by kernel_rfl) (Runs.load (t := 2) (a := ⟨b28, 3, none⟩) (by kernel_rfl) (H43.loads (by kernel_rfl))) (d := (some 98)) (by kernel_rfl) rfl ?_
        refine og 2 [(0, (Value.slice OAa la.length oca)), (2, (Value.bool false)), (3, (ptr b1)), (4, (Value.int IntKind.u64 (IntKind.u64.wrap ((sumR SSa) + xa.amount)))), (5, (i64 ((ia : Nat) : Int))), (6, (ptr b28)), (7, (Value.bool true)), (8, (i64 ((jj : Nat) : Int))), (9, (ptr b86)), (22, (Value.bool true)), (31, (Value.bool false)), (84, (Value.bool false)), (87, (Value.bool true)), (95, (Value.bool true)), (100, (Value.int IntKind.u64 (IntKind.u64.wrap ((IntKind.u64.wrap ((sumR SSa) + xa.amount)) - (IntKind.u64.wrap xa.amount)))))] 5 ?_
        have e111 : IntKind.u64.wrap ((IntKind.u64.wrap ((sumR SSa) + xa.amount)) - (IntKind.u64.wrap xa.amount)) = IntKind.u64.wrap (((sumR SSa) + xa.amount) - xa.amount) := wrapU_sub _ _
        rw [e111]
        clear e111
        refine og 1 [(0, (Value.slice OAa la.length oca)), (2, (Value.bool false)), (3, (ptr b1)), (4, (Value.int IntKind.u64 (IntKind.u64.wrap (((sumR SSa) + xa.amount) - xa.amount)))), (5, (i64 ((ia : Nat) : Int))), (6, (ptr b28)), (7, (Value.bool true)), (8, (i64 ((jj : Nat) : Int))), (9, (ptr b86)), (22, (Value.bool true)), (31, (Value.bool false)), (84, (Value.bool false)), (87, (Value.bool true)), (95, (Value.bool true))] 6 ?_
        refine od ?_
        refine qg ?_
        refine og 2 [(0, (Value.slice OAa la.length oca)), (2, (Value.bool false)), (3, (ptr b1)), (4, (Value.int IntKind.u64 (IntKind.u64.wrap (((sumR SSa) + xa.amount) - xa.amount)))), (5, (i64 ((ia : Nat) : Int))), (6, (ptr b28)), (7, (Value.bool true)), (8, (i64 ((jj : Nat) : Int))), (9, (ptr b86)), (22, (Value.bool true)), (24, (i64 (IntKind.i64.wrap (((ia : Nat) : Int) + 1)))), (31, (Value.bool false)), (84, (Value.bool false)), (87, (Value.bool true)), (95, (Value.bool true))] 2 ?_
        have e112 : IntKind.i64.wrap (((ia : Nat) : Int) + 1) = ((ia + 1 : Nat) : Int) := by rw [wrap_i64 (by omega) (by omega)]; omega
        rw [e112]
        clear e112
        refine og 1 [(0, (Value.slice OAa la.length oca)), (2, (Value.bool false)), (3, (ptr b1)), (4, (Value.int IntKind.u64 (IntKind.u64.wrap (((sumR SSa) + xa.amount) - xa.amount)))), (5, (i64 ((ia + 1 : Nat) : Int))), (6, (ptr b28)), (7, (Value.bool true)), (8, (i64 ((jj : Nat) : Int))), (9, (ptr b86)), (22, (Value.bool true)), (31, (Value.bool false)), (84, (Value.bool false)), (87, (Value.bool true)), (95, (Value.bool true))] 3 ?_
        have hsum : sumR (doS SSa KKa xa) = sumR SSa + deltaE xa := sum_once hBma.ledg.led hinv (hon2.1 ((bnot_false h101))) (by omega)
        have hs113 : IntKind.u64.wrap (((sumR SSa) + xa.amount) - xa.amount) = IntKind.u64.wrap (sumR (doS SSa KKa xa)) := congrArg _ (by rw [hsum]; first | (rw [delta_dep (by omega)]; done) | (rw [delta_wd (by omega)]; omega) | (rw [delta_no (by omega) (by omega)]; omega))
        rw [hs113]
        refine Ops.keep (R := [(0, (Value.slice OAa la.length oca)), (2, (Value.bool false)), (3, (ptr b1)), (4, (Value.int IntKind.u64 (IntKind.u64.wrap (sumR (doS SSa KKa xa))))), (5, (i64 ((ia + 1 : Nat) : Int)))]) (by kernel_rfl) ?_
        refine od ?_
        exact ⟨(ia + 1, m69, (doS SSa KKa xa), (doK SSa KKa xa)), ⟨rfl, (by omega), hB76, (by omega), (hinv.step hxa), K38, H39, H40, Hm74, Hk75⟩, (show 120 - (ia + 1) < 120 - ia from by omega)⟩
       ·rw [h109]
        have p114 : ¬ (xa.kind = 3) := of_beq_f h109
        refine q_skip (by kernel_rfl) ?_
        refine qg ?_
        refine og 2 [(0, (Value.slice OAa la.length oca)), (2, (Value.bool false)), (3, (ptr b1)), (4, (Value.int IntKind.u64 (IntKind.u64.wrap ((sumR SSa) + xa.amount)))), (5, (i64 ((ia : Nat) : Int))), (6, (ptr b28)), (7, (Value.bool true)), (8, (i64 ((jj : Nat) : Int))), (9, (ptr b86)), (22, (Value.bool true)), (24, (i64 (IntKind.i64.wrap (((ia : Nat) : Int) + 1)))), (31, (Value.bool false)), (84, (Value.bool false)), (87, (Value.bool true)), (95, (Value.bool false))] 2 ?_
        have e115 : IntKind.i64.wrap (((ia : Nat) : Int) + 1) = ((ia + 1 : Nat) : Int) := by rw [wrap_i64 (by omega) (by omega)]; omega
        rw [e115]
        clear e115
        refine og 1 [(0, (Value.slice OAa la.length oca)), (2, (Value.bool false)), (3, (ptr b1)), (4, (Value.int IntKind.u64 (IntKind.u64.wrap ((sumR SSa) + xa.amount)))), (5, (i64 ((ia + 1 : Nat) : Int))), (6, (ptr b28)), (7, (Value.bool true)), (8, (i64 ((jj : Nat) : Int))), (9, (ptr b86)), (22, (Value.bool true)), (31, (Value.bool false)), (84, (Value.bool false)), (87, (Value.bool true)), (95, (Value.bool false))] 3 ?_
        have hsum : sumR (doS SSa KKa xa) = sumR SSa + deltaE xa := sum_once hBma.ledg.led hinv (hon2.1 ((bnot_false h101))) (by omega)
        have hs116 : IntKind.u64.wrap ((sumR SSa) + xa.amount) = IntKind.u64.wrap (sumR (doS SSa KKa xa)) := congrArg _ (by rw [hsum]; first | (rw [delta_dep (by omega)]; done) | (rw [delta_wd (by omega)]; omega) | (rw [delta_no (by omega) (by omega)]; omega))
        rw [hs116]
        refine Ops.keep (R := [(0, (Value.slice OAa la.length oca)), (2, (Value.bool false)), (3, (ptr b1)), (4, (Value.int IntKind.u64 (IntKind.u64.wrap (sumR (doS SSa KKa xa))))), (5, (i64 ((ia + 1 : Nat) : Int)))]) (by kernel_rfl) ?_
        refine od ?_
        exact ⟨(ia + 1, m69, (doS SSa KKa xa), (doK SSa KKa xa)), ⟨rfl, (by omega), hB76, (by omega), (hinv.step hxa), K38, H39, H40, Hm74, Hk75⟩, (show 120 - (ia + 1) < 120 - ia from by omega)⟩
      ·rw [h106]
       have p117 : ¬ (xa.kind = 2) := of_beq_f h106
       refine q_skip (by kernel_rfl) ?_
       refine qs ?_
       refine qg ?_
       refine og 1 [(0, (Value.slice OAa la.length oca)), (2, (Value.bool false)), (3, (ptr b1)), (4, (Value.int IntKind.u64 (IntKind.u64.wrap (sumR SSa)))), (5, (i64 ((ia : Nat) : Int))), (6, (ptr b28)), (7, (Value.bool true)), (8, (i64 ((jj : Nat) : Int))), (9, (ptr b86)), (22, (Value.bool true)), (31, (Value.bool false)), (84, (Value.bool false)), (87, (Value.bool false)), (93, (ptr b28))] 1 ?_
       refine Ops.go (v := (i64 xa.kind)) (by kernel_rfl) (Runs.load (t := 3) (a := ⟨b28, 0, none⟩) (by kernel_rfl) (H43.loads (by kernel_rfl))) (d := (some 94)) (by kernel_rfl) rfl ?_
       refine og 1 [(0, (Value.slice OAa la.length oca)), (2, (Value.bool false)), (3, (ptr b1)), (4, (Value.int IntKind.u64 (IntKind.u64.wrap (sumR SSa)))), (5, (i64 ((ia : Nat) : Int))), (6, (ptr b28)), (7, (Value.bool true)), (8, (i64 ((jj : Nat) : Int))), (9, (ptr b86)), (22, (Value.bool true)), (31, (Value.bool false)), (84, (Value.bool false)), (87, (Value.bool false)), (95, (Value.bool (xa.kind == 3)))] 3 ?_
       refine od ?_
       refine q_cond (o := .tmp 95) (b := (xa.kind == 3)) (by kernel_rfl) rfl (fun h118 => ?_) (fun h118 => ?_)
       ·rw [h118]
        have p119 : xa.kind = 3 := of_beq_t h118
        refine qg ?_
        refine og 2 [(0, (Value.slice OAa la.length oca)), (2, (Value.bool false)), (3, (ptr b1)), (4, (Value.int IntKind.u64 (IntKind.u64.wrap (sumR SSa)))), (5, (i64 ((ia : Nat) : Int))), (6, (ptr b28)), (7, (Value.bool true)), (8, (i64 ((jj : Nat) : Int))), (9, (ptr b86)), (22, (Value.bool true)), (31, (Value.bool false)), (84, (Value.bool false)), (87, (Value.bool false)), (95, (Value.bool true)), (96, (Value.int IntKind.u64 (IntKind.u64.wrap (sumR SSa)))), (97, (Value.pointer (some ⟨b28, 3, none⟩)))] 2 ?_
        refine Ops.go (v := (i64 xa.amount)) (by kernel_rfl) (Runs.load (t := 2) (a := ⟨b28, 3, none⟩) (by kernel_rfl) (H43.loads (by kernel_rfl))) (d := (some 98)) (by kernel_rfl) rfl ?_
        refine og 2 [(0, (Value.slice OAa la.length oca)), (2, (Value.bool false)), (3, (ptr b1)), (4, (Value.int IntKind.u64 (IntKind.u64.wrap (sumR SSa)))), (5, (i64 ((ia : Nat) : Int))), (6, (ptr b28)), (7, (Value.bool true)), (8, (i64 ((jj : Nat) : Int))), (9, (ptr b86)), (22, (Value.bool true)), (31, (Value.bool false)), (84, (Value.bool false)), (87, (Value.bool false)), (95, (Value.bool true)), (100, (Value.int IntKind.u64 (IntKind.u64.wrap ((IntKind.u64.wrap (sumR SSa)) - (IntKind.u64.wrap xa.amount)))))] 5 ?_
        have e120 : IntKind.u64.wrap ((IntKind.u64.wrap (sumR SSa)) - (IntKind.u64.wrap xa.amount)) = IntKind.u64.wrap ((sumR SSa) - xa.amount) := wrapU_sub _ _
        rw [e120]
        clear e120
        refine og 1 [(0, (Value.slice OAa la.length oca)), (2, (Value.bool false)), (3, (ptr b1)), (4, (Value.int IntKind.u64 (IntKind.u64.wrap ((sumR SSa) - xa.amount)))), (5, (i64 ((ia : Nat) : Int))), (6, (ptr b28)), (7, (Value.bool true)), (8, (i64 ((jj : Nat) : Int))), (9, (ptr b86)), (22, (Value.bool true)), (31, (Value.bool false)), (84, (Value.bool false)), (87, (Value.bool false)), (95, (Value.bool true))] 6 ?_
        refine od ?_
        refine qg ?_
        refine og 2 [(0, (Value.slice OAa la.length oca)), (2, (Value.bool false)), (3, (ptr b1)), (4, (Value.int IntKind.u64 (IntKind.u64.wrap ((sumR SSa) - xa.amount)))), (5, (i64 ((ia : Nat) : Int))), (6, (ptr b28)), (7, (Value.bool true)), (8, (i64 ((jj : Nat) : Int))), (9, (ptr b86)), (22, (Value.bool true)), (24, (i64 (IntKind.i64.wrap (((ia : Nat) : Int) + 1)))), (31, (Value.bool false)), (84, (Value.bool false)), (87, (Value.bool false)), (95, (Value.bool true))] 2 ?_
        have e121 : IntKind.i64.wrap (((ia : Nat) : Int) + 1) = ((ia + 1 : Nat) : Int) := by rw [wrap_i64 (by omega) (by omega)]; omega
        rw [e121]
        clear e121
        refine og 1 [(0, (Value.slice OAa la.length oca)), (2, (Value.bool false)), (3, (ptr b1)), (4, (Value.int IntKind.u64 (IntKind.u64.wrap ((sumR SSa) - xa.amount)))), (5, (i64 ((ia + 1 : Nat) : Int))), (6, (ptr b28)), (7, (Value.bool true)), (8, (i64 ((jj : Nat) : Int))), (9, (ptr b86)), (22, (Value.bool true)), (31, (Value.bool false)), (84, (Value.bool false)), (87, (Value.bool false)), (95, (Value.bool true))] 3 ?_
        have hsum : sumR (doS SSa KKa xa) = sumR SSa + deltaE xa := sum_once hBma.ledg.led hinv (hon2.1 ((bnot_false h101))) (by omega)
        have hs122 : IntKind.u64.wrap ((sumR SSa) - xa.amount) = IntKind.u64.wrap (sumR (doS SSa KKa xa)) := congrArg _ (by rw [hsum]; first | (rw [delta_dep (by omega)]; done) | (rw [delta_wd (by omega)]; omega) | (rw [delta_no (by omega) (by omega)]; omega))
        rw [hs122]
        refine Ops.keep (R := [(0, (Value.slice OAa la.length oca)), (2, (Value.bool false)), (3, (ptr b1)), (4, (Value.int IntKind.u64 (IntKind.u64.wrap (sumR (doS SSa KKa xa))))), (5, (i64 ((ia + 1 : Nat) : Int)))]) (by kernel_rfl) ?_
        refine od ?_
        exact ⟨(ia + 1, m69, (doS SSa KKa xa), (doK SSa KKa xa)), ⟨rfl, (by omega), hB76, (by omega), (hinv.step hxa), K38, H39, H40, Hm74, Hk75⟩, (show 120 - (ia + 1) < 120 - ia from by omega)⟩
       ·rw [h118]
        have p123 : ¬ (xa.kind = 3) := of_beq_f h118
        refine q_skip (by kernel_rfl) ?_
        refine qg ?_
        refine og 2 [(0, (Value.slice OAa la.length oca)), (2, (Value.bool false)), (3, (ptr b1)), (4, (Value.int IntKind.u64 (IntKind.u64.wrap (sumR SSa)))), (5, (i64 ((ia : Nat) : Int))), (6, (ptr b28)), (7, (Value.bool true)), (8, (i64 ((jj : Nat) : Int))), (9, (ptr b86)), (22, (Value.bool true)), (24, (i64 (IntKind.i64.wrap (((ia : Nat) : Int) + 1)))), (31, (Value.bool false)), (84, (Value.bool false)), (87, (Value.bool false)), (95, (Value.bool false))] 2 ?_
        have e124 : IntKind.i64.wrap (((ia : Nat) : Int) + 1) = ((ia + 1 : Nat) : Int) := by rw [wrap_i64 (by omega) (by omega)]; omega
        rw [e124]
        clear e124
        refine og 1 [(0, (Value.slice OAa la.length oca)), (2, (Value.bool false)), (3, (ptr b1)), (4, (Value.int IntKind.u64 (IntKind.u64.wrap (sumR SSa)))), (5, (i64 ((ia + 1 : Nat) : Int))), (6, (ptr b28)), (7, (Value.bool true)), (8, (i64 ((jj : Nat) : Int))), (9, (ptr b86)), (22, (Value.bool true)), (31, (Value.bool false)), (84, (Value.bool false)), (87, (Value.bool false)), (95, (Value.bool false))] 3 ?_
        have hsum : sumR (doS SSa KKa xa) = sumR SSa + deltaE xa := sum_once hBma.ledg.led hinv (hon2.1 ((bnot_false h101))) (by omega)
        have hs125 : IntKind.u64.wrap (sumR SSa) = IntKind.u64.wrap (sumR (doS SSa KKa xa)) := congrArg _ (by rw [hsum]; first | (rw [delta_dep (by omega)]; done) | (rw [delta_wd (by omega)]; omega) | (rw [delta_no (by omega) (by omega)]; omega))
        rw [hs125]
        refine Ops.keep (R := [(0, (Value.slice OAa la.length oca)), (2, (Value.bool false)), (3, (ptr b1)), (4, (Value.int IntKind.u64 (IntKind.u64.wrap (sumR (doS SSa KKa xa))))), (5, (i64 ((ia + 1 : Nat) : Int)))]) (by kernel_rfl) ?_
        refine od ?_
        exact ⟨(ia + 1, m69, (doS SSa KKa xa), (doK SSa KKa xa)), ⟨rfl, (by omega), hB76, (by omega), (hinv.step hxa), K38, H39, H40, Hm74, Hk75⟩, (show 120 - (ia + 1) < 120 - ia from by omega)⟩
  ·rw [h26]
   have p126 : ¬ (((ia : Nat) : Int) < 120) := of_decide_eq_false h26
   refine q_exit (id := 0) (by kernel_rfl) ?_
   refine qs ?_
   refine qg ?_
   refine og 1 [(2, (Value.bool false)), (4, (Value.int IntKind.u64 (IntKind.u64.wrap (sumR SSa)))), (102, (ptr b1))] 1 ?_
   refine Ops.call (by kernel_rfl) (d := (some 103)) (by kernel_rfl) (Sum_calls _ b1 mb2 kb3 mma SSa KKa H18 H19 H20 (by omega) hBma) ?_
   rintro _ w128 ⟨rfl, K127⟩
   refine ⟨_, _, rfl, rfl, ?_⟩
   replace K16 := K16.trans K127 (U := none_) (fun i h1 h2 => h2) (fun i h1 h2 => by exact h2)
   replace H17 := H17.keep K127 (fun h => h)
   replace H18 := H18.keep K127 (fun h => h)
   replace H19 := H19.keep K127 (fun h => h)
   replace H20 := H20.keep K127 (fun h => h)
   clear K127
   refine og 5 [(2, (Value.bool false)), (4, (Value.int IntKind.u64 (IntKind.u64.wrap (sumR SSa)))), (10, (i64 ((sumE SSa).1))), (11, (i64 ((sumE SSa).2)))] 7 ?_
   refine od ?_
   refine qs ?_
   refine qg ?_
   refine og 3 [(2, (Value.bool false)), (4, (Value.int IntKind.u64 (IntKind.u64.wrap (sumR SSa)))), (10, (i64 ((sumE SSa).1))), (108, (Value.bool (((sumE SSa).2) != 0)))] 3 ?_
   refine Ops.split (((sumE SSa).2) != 0) (fun h129 => ?_) (fun h129 => ?_)
   ·rw [h129]
    have p130 : ¬ ((sumE SSa).2 = 0) := of_bne_t h129
    refine og 6 [(2, (Value.bool false)), (114, (Value.bool true))] 9 ?_
    refine Ops.call (by kernel_rfl) (d := (some 115)) (by kernel_rfl) (known_calls _ tb H17) ?_
    rintro _ w132 ⟨rfl, K131⟩
    refine ⟨_, _, rfl, rfl, ?_⟩
    replace K16 := K16.trans K131 (U := none_) (fun i h1 h2 => h2) (fun i h1 h2 => by exact h2)
    replace H17 := H17.keep K131 (fun h => h)
    replace H18 := H18.keep K131 (fun h => h)
    replace H19 := H19.keep K131 (fun h => h)
    replace H20 := H20.keep K131 (fun h => h)
    clear K131
    refine og 2 [(2, (Value.bool true))] 12 ?_
    refine od ?_
    refine q_ret (by kernel_rfl) ?_
    refine ⟨(Value.bool true), retv_tmp rfl rfl, ?_⟩
    exact ⟨rfl, K16⟩
   ·rw [h129]
    have p133 : (sumE SSa).2 = 0 := of_bne_f h129
    refine og 6 [(2, (Value.bool false)), (114, (Value.bool ((IntKind.u64.wrap ((sumE SSa).1)) == (IntKind.u64.wrap (sumR SSa)))))] 9 ?_
    have h134 : ((IntKind.u64.wrap ((sumE SSa).1)) == (IntKind.u64.wrap (sumR SSa))) = true := beq_iff_eq.2 (congrArg _ (sumE_ok (by omega)))
    rw [h134]
    refine Ops.call (by kernel_rfl) (d := (some 115)) (by kernel_rfl) (known_calls _ tb H17) ?_
    rintro _ w136 ⟨rfl, K135⟩
    refine ⟨_, _, rfl, rfl, ?_⟩
    replace K16 := K16.trans K135 (U := none_) (fun i h1 h2 => h2) (fun i h1 h2 => by exact h2)
    replace H17 := H17.keep K135 (fun h => h)
    replace H18 := H18.keep K135 (fun h => h)
    replace H19 := H19.keep K135 (fun h => h)
    replace H20 := H20.keep K135 (fun h => h)
    clear K135
    refine og 2 [(2, (Value.bool true))] 12 ?_
    refine od ?_
    refine q_ret (by kernel_rfl) ?_
    refine ⟨(Value.bool true), retv_tmp rfl rfl, ?_⟩
    exact ⟨rfl, K16⟩
 ·rw [h21]
  have p137 : ¬ (((ia : Nat) : Int) < ((la.length : Nat) : Int)) := of_decide_eq_false h21
  refine og 3 [(0, (Value.slice OAa la.length oca)), (2, (Value.bool false)), (3, (ptr b1)), (4, (Value.int IntKind.u64 (IntKind.u64.wrap (sumR SSa)))), (5, (i64 ((ia : Nat) : Int))), (22, (Value.bool false))] 8 ?_
  refine od ?_
  refine q_else (o := .tmp 22) (by kernel_rfl) rfl ?_
  refine q_exit (id := 0) (by kernel_rfl) ?_
  refine qs ?_
  refine qg ?_
  refine og 1 [(2, (Value.bool false)), (4, (Value.int IntKind.u64 (IntKind.u64.wrap (sumR SSa)))), (102, (ptr b1))] 1 ?_
  refine Ops.call (by kernel_rfl) (d := (some 103)) (by kernel_rfl) (Sum_calls _ b1 mb2 kb3 mma SSa KKa H18 H19 H20 (by omega) hBma) ?_
  rintro _ w139 ⟨rfl, K138⟩
  refine ⟨_, _, rfl, rfl, ?_⟩
  replace K16 := K16.trans K138 (U := none_) (fun i h1 h2 => h2) (fun i h1 h2 => by exact h2)
  replace H17 := H17.keep K138 (fun h => h)
  replace H18 := H18.keep K138 (fun h => h)
  replace H19 := H19.keep K138 (fun h => h)
  replace H20 := H20.keep K138 (fun h => h)
  clear K138
  refine og 5 [(2, (Value.bool false)), (4, (Value.int IntKind.u64 (IntKind.u64.wrap (sumR SSa)))), (10, (i64 ((sumE SSa).1))), (11, (i64 ((sumE SSa).2)))] 7 ?_
  refine od ?_
  refine qs ?_
  refine qg ?_
  refine og 3 [(2, (Value.bool false)), (4, (Value.int IntKind.u64 (IntKind.u64.wrap (sumR SSa)))), (10, (i64 ((sumE SSa).1))), (108, (Value.bool (((sumE SSa).2) != 0)))] 3 ?_
  refine Ops.split (((sumE SSa).2) != 0) (fun h140 => ?_) (fun h140 => ?_)
  ·rw [h140]
   have p141 : ¬ ((sumE SSa).2 = 0) := of_bne_t h140
   refine og 6 [(2, (Value.bool false)), (114, (Value.bool true))] 9 ?_
   refine Ops.call (by kernel_rfl) (d := (some 115)) (by kernel_rfl) (known_calls _ tb H17) ?_
   rintro _ w143 ⟨rfl, K142⟩
   refine ⟨_, _, rfl, rfl, ?_⟩
   replace K16 := K16.trans K142 (U := none_) (fun i h1 h2 => h2) (fun i h1 h2 => by exact h2)
   replace H17 := H17.keep K142 (fun h => h)
   replace H18 := H18.keep K142 (fun h => h)
   replace H19 := H19.keep K142 (fun h => h)
   replace H20 := H20.keep K142 (fun h => h)
   clear K142
   refine og 2 [(2, (Value.bool true))] 12 ?_
   refine od ?_
   refine q_ret (by kernel_rfl) ?_
   refine ⟨(Value.bool true), retv_tmp rfl rfl, ?_⟩
   exact ⟨rfl, K16⟩
  ·rw [h140]
   have p144 : (sumE SSa).2 = 0 := of_bne_f h140
   refine og 6 [(2, (Value.bool false)), (114, (Value.bool ((IntKind.u64.wrap ((sumE SSa).1)) == (IntKind.u64.wrap (sumR SSa)))))] 9 ?_
   have h145 : ((IntKind.u64.wrap ((sumE SSa).1)) == (IntKind.u64.wrap (sumR SSa))) = true := beq_iff_eq.2 (congrArg _ (sumE_ok (by omega)))
   rw [h145]
   refine Ops.call (by kernel_rfl) (d := (some 115)) (by kernel_rfl) (known_calls _ tb H17) ?_
   rintro _ w147 ⟨rfl, K146⟩
   refine ⟨_, _, rfl, rfl, ?_⟩
   replace K16 := K16.trans K146 (U := none_) (fun i h1 h2 => h2) (fun i h1 h2 => by exact h2)
   replace H17 := H17.keep K146 (fun h => h)
   replace H18 := H18.keep K146 (fun h => h)
   replace H19 := H19.keep K146 (fun h => h)
   replace H20 := H20.keep K146 (fun h => h)
   clear K146
   refine og 2 [(2, (Value.bool true))] 12 ?_
   refine od ?_
   refine q_ret (by kernel_rfl) ?_
   refine ⟨(Value.bool true), retv_tmp rfl rfl, ?_⟩
   exact ⟨rfl, K16⟩
end Go.Proofs.YtnfeemhpoaflfaaGreatDoor
namespace Go.Q
open Go.ChangeShapes Go.WideShapes Go.ChangeAt Go.RowKit Go.Deep
variable {H : Type} {enc : TypeId × Value → H} {P : Program} {w : World} {spare : Nat → Bool} {held : Bool}
theorem open_ops {t e : TypeId} {fs : Array Field} {v : Value} {d : DataW H} {ps : List MemPlace} (ht : P.underlying t = some (.slice e)) (he : P.underlying e = some (.struct fs)) (hone : oneCellFields P fs = true) (hC : P.cellsOf e = fs.size) (h7 : fs.size = 7)
    (k0 : fieldOf? P fs 0 = some (.int .i64)) (k1 : fieldOf? P fs 1 = some .string) (k2 : fieldOf? P fs 2 = some .string) (k3 : fieldOf? P fs 3 = some (.int .i64)) (k4 : fieldOf? P fs 4 = some .string) (k5 : fieldOf? P fs 5 = some (.int .i64)) (k6 : fieldOf? P fs 6 = some (.int .i64))
    (hv : Value.okWide P w .any 0 t v) (h : DataW.Trod enc P w 0 spare held t v d ps) : ∃ (l : List Opm) (A : Option Addr) (c : Nat), v = .slice A l.length c ∧ RdT w 7 Opm.cells (.slice A l.length c) l ∧ ∀ x ∈ l, x.Ok := by
  obtain ⟨fuel, h⟩ := trod_fuel h (slice_form ht hv)
  obtain ⟨l, hR, hg, _, A, c, rfl⟩ := open_models Opm.cells Opm.Ok ht (sz := 7) (by rw [hC, h7]) (by decide) (slice_trod ht h) h fun m cs y hl h => dec_op he hone hC h7 k0 k1 k2 k3 k4 k5 k6 (hl.trans h7.symm) h
  exact ⟨l, A, c, rfl, hR, hg⟩
theorem tab_third {n1 n2 : String} {d1 d2 d : DataW Unit} {rest : List (String × DataW Unit)} {W : World} {g : Nat} {t e : TypeId}
    (hg : P.globalNamed "internal/strconv.uint64pow10" = some g) (hty : (P.globals[g]?).map (·.type) = some t) (ht : P.underlying t = some (.array 20 e)) (he : P.underlying e = some (.int .u64)) (hce : P.cellsOf e = 1) (hct : P.cellsOf t = 20)
    (hd : d = Lib.tabData .u64 Lib.pow10Tab) (h : laidMet P ((n1, d1) :: (n2, d2) :: ("internal/strconv.uint64pow10", d) :: rest) W) : Tab P W g := by
  subst hd
  obtain ⟨ps, ⟨_, _, _, _, _, _, _, _, _, _, ⟨_, _, _, _, _, _, _, _, _, _, ⟨g', t', cs, fuel, p, q, hg', ht', hvar, hd, _, _⟩, _⟩, _⟩, _⟩ := h
  obtain rfl := Option.some.inj (hg.symm.trans hg')
  obtain rfl := Option.some.inj (hty.symm.trans ht')
  refine ⟨hg, ?_⟩
  unfold Lib.TabIs
  rw [hvar, ← Lib.cells_of_tab ht he hce hct hd]
end Go.Q
