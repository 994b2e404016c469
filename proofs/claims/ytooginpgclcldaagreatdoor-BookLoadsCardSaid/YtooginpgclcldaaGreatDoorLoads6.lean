/- What the claim stands on, part 6: rules of the walk, contracts of the functions, plain laws. -/
import Derived.Test.YtooginpgclcldaaGreatDoorLoads5
import Derived.Sort.Walk0
set_option linter.unusedVariables false
namespace Go.Q
def AccM.cells (a : AccM) : List Value := [.string (str a.name), i64 a.amt, .string (str a.own)]
theorem AccM.three (a : AccM) : a.cells.length = 3 := rfl
theorem AccM.one (a : AccM) : oneCells a.cells = true := rfl
def posS (S : List AccM) (n : List UInt8) : Nat := (S.takeWhile fun a => decide (a.name < n)).length
theorem posS_le : ∀ (S : List AccM) (n : List UInt8), posS S n ≤ S.length
  | [], _ => Nat.le_refl _
  | a :: S, n => by
    have := posS_le S n
    unfold posS at this ⊢
    rw [List.takeWhile_cons]
    split <;> simp only [List.length_cons, List.length_nil] <;> omega
theorem posS_lt : ∀ {S : List AccM} {n : List UInt8} {i : Nat} {a : AccM}, S[i]? = some a → i < posS S n → a.name < n
  | [], _, _, _, h, _ => by cases h
  | b :: S, n, i, a, h, hi => by
    unfold posS at hi
    rw [List.takeWhile_cons] at hi
    by_cases hb : b.name < n
    · rw [if_pos (by simpa using hb), List.length_cons] at hi
      cases i with
      | zero => simp only [List.getElem?_cons_zero, Option.some.injEq] at h; subst h; exact hb
      | succ i => exact posS_lt (S := S) (by simpa using h) (by unfold posS; omega)
    · rw [if_neg (by simpa using hb)] at hi; cases hi
theorem posS_at : ∀ {S : List AccM} {n : List UInt8} {a : AccM}, S[posS S n]? = some a → ¬ a.name < n
  | [], _, _, h => by cases h
  | b :: S, n, a, h => by
    unfold posS at h
    rw [List.takeWhile_cons] at h
    by_cases hb : b.name < n
    · rw [if_pos (by simpa using hb), List.length_cons, List.getElem?_cons_succ] at h
      exact posS_at (S := S) h
    · rw [if_neg (by simpa using hb)] at h
      simp only [List.length_nil, List.getElem?_cons_zero, Option.some.injEq] at h
      subst h; exact hb
theorem pos_step {S : List AccM} {n : List UInt8} {i : Nat} {a : AccM} (h : S[i]? = some a) (ha : a.name < n) (hi : i ≤ posS S n) : i + 1 ≤ posS S n := by
  rcases Nat.lt_or_eq_of_le hi with hi | hi
  · exact hi
  · exact absurd ha (posS_at (by rw [← hi]; exact h))
theorem pos_exit {S : List AccM} {n : List UInt8} {i : Nat} {a : AccM} (h : S[i]? = some a) (ha : ¬ a.name < n) (hi : i ≤ posS S n) : i = posS S n := by
  rcases Nat.lt_or_eq_of_le hi with hi | hi
  · exact absurd (posS_lt h hi) ha
  · exact hi
theorem pos_end {S : List AccM} {n : List UInt8} {i : Nat} (h : S.length ≤ i) (hi : i ≤ posS S n) : i = posS S n := by have := posS_le S n; omega
def hasS (S : List AccM) (n : List UInt8) : Bool := match S[posS S n]? with | some a => a.name == n | none => false
theorem has_at {S : List AccM} {n : List UInt8} {a : AccM} (h : S[posS S n]? = some a) : hasS S n = (a.name == n) := by unfold hasS; rw [h]
theorem has_end {S : List AccM} {n : List UInt8} (h : S.length ≤ posS S n) : hasS S n = false := by unfold hasS; rw [List.getElem?_eq_none h]
theorem sorted_at {S : List AccM} (hS : S.Pairwise (fun a b => ltN a.name b.name)) {i j : Nat} {a b : AccM} (hi : S[i]? = some a) (hj : S[j]? = some b) (h : i < j) : a.name < b.name := by
  obtain ⟨hi1, hi2⟩ := List.getElem?_eq_some_iff.1 hi
  obtain ⟨hj1, hj2⟩ := List.getElem?_eq_some_iff.1 hj
  have := (List.pairwise_iff_getElem.1 hS) i j hi1 hj1 h
  rw [hi2, hj2] at this
  exact this
theorem find_some {S : List AccM} (hS : Accs S) {n : List UInt8} {a : AccM} (h : getS S n = some a) : hasS S n = true ∧ S[posS S n]? = some a := by
  obtain ⟨hm, rfl⟩ := getS_some h
  obtain ⟨i, hi⟩ := List.getElem?_of_mem hm
  have hp : i = posS S a.name := by
    rcases Nat.lt_trichotomy i (posS S a.name) with h1 | h1 | h1
    · exact absurd (posS_lt hi h1) (ltN_irrefl _)
    · exact h1
    · obtain ⟨b, hb⟩ : ∃ b, S[posS S a.name]? = some b := ⟨_, List.getElem?_eq_getElem (by have := (List.getElem?_eq_some_iff.1 hi).1; omega)⟩
      exact absurd (sorted_at hS.sorted hb hi h1) (posS_at hb)
  rw [← hp]
  exact ⟨by rw [has_at (a := a) (by rw [← hp]; exact hi)]; exact beq_self_eq_true _, hi⟩
theorem find_none {S : List AccM} {n : List UInt8} (h : getS S n = none) : hasS S n = false := by
  unfold hasS
  cases ha : S[posS S n]? with
  | none => rfl
  | some a => exact beq_eq_false_iff_ne.2 (getS_none h a (List.mem_of_getElem? ha))
theorem ins_split : ∀ (S : List AccM) (a : AccM), S.take (posS S a.name) ++ ([a] ++ S.drop (posS S a.name)) = insS S a
  | [], a => rfl
  | b :: S, a => by
    have ih := ins_split S a
    unfold posS at ih ⊢
    unfold insS
    rw [List.takeWhile_cons]
    by_cases hb : b.name < a.name
    · rw [if_pos (by simpa using hb), if_pos hb, List.length_cons, List.take_succ_cons, List.drop_succ_cons, List.cons_append, ih]
    · rw [if_neg (by simpa using hb), if_neg hb]; rfl
theorem set_at {S : List AccM} (hS : Accs S) {n : List UInt8} {a : AccM} (h : getS S n = some a) (x : AccV) : setS S n x = S.set (posS S n) ⟨n, x.1, x.2⟩ := by
  have hf := (find_some hS h).2
  obtain ⟨hl, hq⟩ := List.getElem?_eq_some_iff.1 hf
  obtain ⟨hm, hn⟩ := getS_some h
  unfold setS
  apply List.ext_getElem?
  intro i
  rw [List.getElem?_map, List.getElem?_set]
  by_cases hi : posS S n = i
  · subst hi
    rw [if_pos rfl, if_pos hl, hf]
    show some (if a.name = n then (⟨n, x.1, x.2⟩ : AccM) else a) = _
    rw [if_pos hn]
  · rw [if_neg hi]
    cases hb : S[i]? with
    | none => rfl
    | some b =>
      show some (if b.name = n then (⟨n, x.1, x.2⟩ : AccM) else b) = _
      rw [if_neg]
      intro e
      rcases Nat.lt_or_gt_of_ne hi with h1 | h1
      · have := sorted_at hS.sorted hf hb h1; rw [hn, e] at this; exact ltN_irrefl _ this
      · have := sorted_at hS.sorted hb hf h1; rw [hn, e] at this; exact ltN_irrefl _ this
/-- An element of one's own row is changed in one cell. -/
theorem flat_setT {α : Type} {f : α → List Value} {sz : Nat} (hf : ∀ x, (f x).length = sz) {o : Nat} {u : Value} {y : α} (ho : o < sz) :
    ∀ {l : List α} {i : Nat} {x : α}, l[i]? = some x → f y = (f x).set o u → (l.flatMap f).set (i * sz + o) u = (l.set i y).flatMap f
  | [], _, _, h, _ => by cases h
  | z :: l, 0, x, h, hy => by
    simp only [List.getElem?_cons_zero, Option.some.injEq] at h
    subst h
    rw [List.flatMap_cons, List.set_cons_zero, List.flatMap_cons, Nat.zero_mul, Nat.zero_add, List.set_append_left _ _ (by rw [hf]; exact ho), hy]
  | z :: l, i + 1, x, h, hy => by
    rw [List.getElem?_cons_succ] at h
    rw [List.flatMap_cons, List.set_cons_succ, List.flatMap_cons, List.set_append_right _ _ (by rw [hf, Nat.add_mul]; omega), hf, show (i + 1) * sz + o - sz = i * sz + o from by rw [Nat.add_mul]; omega, flat_setT hf ho h hy]
/-- An own row is opened at an element: its block, what lies there, and what may be stored. -/
theorem OwnT.open {α : Type} {f : α → List Value} {sz : Nat} (hf : ∀ x, (f x).length = sz) (h0 : 0 < sz) {w : World} {base e i c : Nat} {A : Option Addr} {l : List α} {x : α} (hx : l[i]? = some x) (h : OwnT w base e sz f (.slice A l.length c) l) :
    ∃ g cur, A = some ⟨g, 0, none⟩ ∧ base ≤ g ∧ Has w g (rowL cur e) ∧ i * sz + sz ≤ cur.length ∧ (∀ j u, (f x)[j]? = some u → cur[i * sz + j]? = some u) ∧
      ∀ (o : Nat) (u : Value) (y : α), o < sz → f y = (f x).set o u → ∀ w', Has w' g (rowL (cur.set (i * sz + o) u) e) → OwnT w' base e sz f (.slice A l.length c) (l.set i y) := by
  obtain ⟨hl, h⟩ := h
  have hi := (List.getElem?_eq_some_iff.1 hx).1
  have him : i * sz + sz ≤ l.length * sz := by rw [← Nat.succ_mul]; exact Nat.mul_le_mul_right _ hi
  rcases h with ⟨_, h0'⟩ | ⟨g, cap, cur, hv, hg, hh, h1, h2, h3, h4⟩
  · exfalso
    rw [flat_len hf] at hl
    have hz : (l.flatMap f).length = 0 := by rw [flat_len hf]; omega
    omega
  · simp only [Value.slice.injEq] at hv
    obtain ⟨rfl, _, rfl⟩ := hv
    have hcl : cur.toList.length = c * sz := by simpa using h3
    have hlc : l.length * sz ≤ c * sz := Nat.mul_le_mul_right _ h1
    refine ⟨g, cur.toList, rfl, hg, by unfold Has; rw [hh], by omega, fun j u hu => ?_, fun o u y ho hy w' H => ?_⟩
    · have hj := (List.getElem?_eq_some_iff.1 hu).1
      rw [hf] at hj
      have := flat_at hf hx j u hu
      rw [← h4, List.getElem?_take_of_lt (by omega)] at this
      exact this
    · have hset : (l.set i y).length = l.length := List.length_set
      refine ⟨?_, .inr ⟨g, c, ⟨cur.toList.set (i * sz + o) u⟩, by rw [hset], hg, H, by rw [hset]; exact h1, h2, ?_, ?_⟩⟩
      · rw [flat_len hf]
      · show (cur.toList.set (i * sz + o) u).length = _
        rw [List.length_set]; exact hcl
      · show (cur.toList.set (i * sz + o) u).take _ = _
        rw [hset, List.take_set, h4, flat_setT hf ho hx hy]
theorem Runs.strlss {P : Program} {L : Loc} {o : Oper} {w : World} {t : TypeId} {a b : List UInt8} (h : bin? L o = some (.lss, t, .string (str a), .string (str b))) : Runs P L o w (.bool (decide (a < b))) w := by
  refine Runs.bin h (fun _ _ => by simp [eqGuard, Sem.run_pure]) ?_
  simp only [binOp, Op.stringOp, str_toList, Go.Proofs.bytesLess_eq, Sem.run_pure]
theorem Runs.strgtr {P : Program} {L : Loc} {o : Oper} {w : World} {t : TypeId} {a b : List UInt8} (h : bin? L o = some (.gtr, t, .string (str a), .string (str b))) : Runs P L o w (.bool (!(decide (a < b) || a == b))) w := by
  refine Runs.bin h (fun _ _ => by simp [eqGuard, Sem.run_pure]) ?_
  simp only [binOp, Op.stringOp, str_toList, Go.Proofs.bytesLess_eq, Sem.run_pure]
end Go.Q
