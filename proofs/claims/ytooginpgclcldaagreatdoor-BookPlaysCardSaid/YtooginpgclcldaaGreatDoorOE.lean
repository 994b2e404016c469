/- What is wrong of an operation; texts, letter by letter. -/
import Derived.Test.YtooginpgclcldaaGreatDoorOC
import Derived.Test.YtooginpgclcldaaGreatDoorLD
set_option linter.unusedVariables false
namespace Go.Q
open Go.RowKit
/-- What is wrong of an operation. -/
def wrongE (o : Opm) : Int :=
  if o.kind = 6 then 0
  else if o.kind = 7 then (if o.slot < 0 ∨ 15 < o.slot ∨ o.shard < 1 ∨ 3 < o.shard then 1 else 0)
  else if o.kind < 1 ∨ 7 < o.kind then 1
  else if nameOk o.frm = false then 46
  else if o.kind = 5 then 0
  else if nameOk o.key = false then 46
  else if o.kind = 1 then 0
  else if o.kind = 4 ∧ nameOk o.to = false then 46
  else if o.amount < 1 then 47
  else if o.kind = 4 ∧ o.frm = o.to then 44
  else 0
section
variable {P : Program} {w : World} {t : TypeId}
theorem run_index_str (ht : P.underlying t = some .string) {s : List UInt8} {i : Nat} {c : UInt8} (h : s[i]? = some c) (k : IntKind) : (Instr.index t (.string (str s)) (.int k ((i : Nat) : Int))).run P w = .ok (.int .u8 ((c.toNat : Nat) : Int)) w := by
  have h1 : (str s)[i]? = some c := by
    obtain ⟨hl, he⟩ := List.getElem?_eq_some_iff.1 h
    have hl2 : i < (str s).size := hl
    rw [getElem?_pos (str s) i hl2]
    exact congrArg some he
  simp [Instr.index, asIntOf, run_underlying ht, h1, Result.andThen, go_sem]
def ixv? (L : Loc) (o : Oper) : Option (TypeId × Value × Value) := match o.op with | .index t x y => some (t, ev L x, ev L y) | _ => none
theorem Runs.of_index {L : Loc} {o : Oper} {x y v : Value} {w' : World} (h : ixv? L o = some (t, x, y)) (hr : (Instr.index t x y).run P w = .ok v w') : Runs P L o w v w' := by
  unfold ixv? at h
  cases ho : o.op with
  | index t' x' y' =>
    rw [ho] at h
    simp only [Option.some.injEq, Prod.mk.injEq] at h
    obtain ⟨rfl, hx, hy⟩ := h
    unfold Runs execOp
    simp only [ho, hx, hy, Sem.run_bind, Result.andThen_ok, hr, Sem.run_pure]
  | _ => rw [ho] at h; cases h
end
theorem letterB_t {c : UInt8} (h : (97 ≤ c.toNat ∧ c.toNat ≤ 122) ∨ (48 ≤ c.toNat ∧ c.toNat ≤ 57) ∨ c.toNat = 95) : letterB c = true := decide_eq_true h
theorem letterB_f {c : UInt8} (h : ¬ ((97 ≤ c.toNat ∧ c.toNat ≤ 122) ∨ (48 ≤ c.toNat ∧ c.toNat ≤ 57) ∨ c.toNat = 95)) : letterB c = false := decide_eq_false h
theorem name_short {n : List UInt8} (h : n.length < 1 ∨ 24 < n.length) : nameOk n = false := by
  unfold nameOk
  rw [Bool.and_eq_false_iff]
  left
  exact decide_eq_false (by omega)
theorem name_all {n : List UInt8} (h : 1 ≤ n.length ∧ n.length ≤ 24) : nameOk n = n.all letterB := by
  unfold nameOk
  rw [decide_eq_true h, Bool.true_and]
theorem all_drop {n : List UInt8} {i : Nat} {c : UInt8} (h : n[i]? = some c) : (n.drop i).all letterB = (letterB c && (n.drop (i + 1)).all letterB) := by
  obtain ⟨hl, he⟩ := List.getElem?_eq_some_iff.1 h
  rw [List.drop_eq_getElem_cons hl, List.all_cons, he]
theorem ne_of_t {b : Bool} (h : b = true) : ¬ b = false := by rw [h]; decide
theorem and_ne_of_t {p : Prop} {b : Bool} (h : b = true) : ¬ (p ∧ b = false) := fun q => ne_of_t h q.2
theorem and_ne {p q : Prop} (h : ¬ q) : ¬ (p ∧ q) := fun x => h x.2
theorem beq_false_ne {a b : List UInt8} (h : (a == b) = false) : ¬ a = b := by simpa using h
theorem beq_true_eq {a b : List UInt8} (h : (a == b) = true) : a = b := by simpa using h
end Go.Q
