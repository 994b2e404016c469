/- What the claim stands on, part 13: rules of the walk, contracts of the functions, plain laws. -/
import Derived.Test.YtnbcghbgeiocbaaDoorKHRecords5
import Derived.Sort.Walk0
set_option linter.unusedVariables false
namespace Go.Q
def AccM.cells (a : AccM) : List Value := [.string (str a.name), i64 a.amt, .string (str a.own)]
theorem AccM.three (a : AccM) : a.cells.length = 3 := rfl
theorem AccM.one (a : AccM) : oneCells a.cells = true := rfl
def posS (S : List AccM) (n : List UInt8) : Nat := (S.takeWhile fun a => decide (a.name < n)).length
def hasS (S : List AccM) (n : List UInt8) : Bool := match S[posS S n]? with | some a => a.name == n | none => false
theorem flat_setT {α : Type} {f : α → List Value} {sz : Nat} (hf : ∀ x, (f x).length = sz) {o : Nat} {u : Value} {y : α} (ho : o < sz) :
  ∀ {l : List α} {i : Nat} {x : α}, l[i]? = some x → f y = (f x).set o u → (l.flatMap f).set (i * sz + o) u = (l.set i y).flatMap f
 | [], _, _, h, _ => by cases h
 | z :: l, 0, x, h, hy => by
  simp only [List.getElem?_cons_zero, Option.some.injEq] at h
  subst h
  rw [List.flatMap_cons, List.set_cons_zero, List.flatMap_cons, Nat.zero_mul, Nat.zero_add, List.set_append_left _ _ (by rw [hf]; exact ho), hy]
 | z :: l, i + 1, x, h, hy => by
  rw [List.getElem?_cons_succ] at h
  rw [List.flatMap_cons, List.set_cons_succ, List.flatMap_cons, List.set_append_right _ _ (by rw [hf, Nat.add_mul]; omega), hf, show (i + 1) * sz + o - sz = i * sz + o from by rw [Nat.add_mul]; omega, flat_setT hf ho h hy]
theorem OwnT.open {α : Type} {f : α → List Value} {sz : Nat} (hf : ∀ x, (f x).length = sz) (h0 : 0 < sz) {w : World} {base e i c : Nat} {A : Option Addr} {l : List α} {x : α} (hx : l[i]? = some x) (h : OwnT w base e sz f (.slice A l.length c) l) :
  ∃ g cur, A = some ⟨g, 0, none⟩ ∧ base ≤ g ∧ Has w g (rowL cur e) ∧ i * sz + sz ≤ cur.length ∧ (∀ j u, (f x)[j]? = some u → cur[i * sz + j]? = some u) ∧
   ∀ (o : Nat) (u : Value) (y : α), o < sz → f y = (f x).set o u → ∀ w', Has w' g (rowL (cur.set (i * sz + o) u) e) → OwnT w' base e sz f (.slice A l.length c) (l.set i y) := by
 obtain ⟨hl, h⟩ := h
 have hi := (List.getElem?_eq_some_iff.1 hx).1
 have him : i * sz + sz ≤ l.length * sz := by rw [← Nat.succ_mul]; exact Nat.mul_le_mul_right _ hi
 rcases h with ⟨_, h0'⟩ | ⟨g, cap, cur, hv, hg, hh, h1, h2, h3, h4⟩
 ·exfalso
  rw [flat_len hf] at hl
  have hz : (l.flatMap f).length = 0 := by rw [flat_len hf]; omega
  omega
 ·simp only [Value.slice.injEq] at hv
  obtain ⟨rfl, _, rfl⟩ := hv
  have hcl : cur.toList.length = c * sz := by simpa using h3
  have hlc : l.length * sz ≤ c * sz := Nat.mul_le_mul_right _ h1
  refine ⟨g, cur.toList, rfl, hg, by unfold Has; rw [hh], by omega, fun j u hu => ?_, fun o u y ho hy w' H => ?_⟩
  ·have hj := (List.getElem?_eq_some_iff.1 hu).1
   rw [hf] at hj
   have := flat_at hf hx j u hu
   rw [← h4, List.getElem?_take_of_lt (by omega)] at this
   exact this
  ·have hset : (l.set i y).length = l.length := List.length_set
   refine ⟨?_, .inr ⟨g, c, ⟨cur.toList.set (i * sz + o) u⟩, by rw [hset], hg, H, by rw [hset]; exact h1, h2, ?_, ?_⟩⟩
   ·rw [flat_len hf]
   ·show (cur.toList.set (i * sz + o) u).length = _
    rw [List.length_set]; exact hcl
   ·show (cur.toList.set (i * sz + o) u).take _ = _
    rw [hset, List.take_set, h4, flat_setT hf ho hx hy]
end Go.Q
