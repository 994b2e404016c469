/- What the claim stands on, part 13: rules of the walk, contracts of the functions, plain laws. -/
import Derived.Test.YtnfeemhpoaflfaaGreatDoorKDoes5
import Derived.Sort.Walk0
import Derived.Test.YtnfeemhpoaflfaaGreatDoorKDoes12
import Derived.Shelf.SlicesE.Index
import Derived.Test.YtnfeemhpoaflfaaGreatDoorKDoes9
import Derived.Test.YtnfeemhpoaflfaaGreatDoorKDoes4
import Derived.Test.YtnfeemhpoaflfaaGreatDoorProg
import Derived.Test.YtnfeemhpoaflfaaGreatDoorKDoes10
import Derived.Test.YtnfeemhpoaflfaaGreatDoorKDoes6
set_option linter.unusedVariables false
namespace Go.Q
def AccM.cells (a : AccM) : List Value := [.string (str a.name), i64 a.amt, .string (str a.own)]
theorem AccM.one (a : AccM) : oneCells a.cells = true := rfl
def posS (S : List AccM) (n : List UInt8) : Nat := (S.takeWhile fun a => decide (a.name < n)).length
def hasS (S : List AccM) (n : List UInt8) : Bool := match S[posS S n]? with | some a => a.name == n | none => false
/-- An element of one's own row is changed in one cell. -/
theorem flat_setT {α : Type} {f : α → List Value} {sz : Nat} (hf : ∀ x, (f x).length = sz) {o : Nat} {u : Value} {y : α} (ho : o < sz) :
    ∀ {l : List α} {i : Nat} {x : α}, l[i]? = some x → f y = (f x).set o u → (l.flatMap f).set (i * sz + o) u = (l.set i y).flatMap f
  | [], _, _, h, _ => by cases h
  | z :: l, 0, x, h, hy => by
    simp only [List.getElem?_cons_zero, Option.some.injEq] at h
    subst h
    rw [List.flatMap_cons, List.set_cons_zero, List.flatMap_cons, Nat.zero_mul, Nat.zero_add, List.set_append_left _ _ (by rw [hf]; exact ho), hy]
  | z :: l, i + 1, x, h, hy => by
    rw [List.getElem?_cons_succ] at h
    rw [List.flatMap_cons, List.set_cons_succ, List.flatMap_cons, List.set_append_right _ _ (by rw [hf, Nat.add_mul]; omega), hf, show (i + 1) * sz + o - sz = i * sz + o from by rw [Nat.add_mul]; omega, flat_setT hf ho h hy]
/-- An own row is opened at an element: its block, what lies there, and what may be stored. -/
theorem OwnT.open {α : Type} {f : α → List Value} {sz : Nat} (hf : ∀ x, (f x).length = sz) (h0 : 0 < sz) {w : World} {base e i c : Nat} {A : Option Addr} {l : List α} {x : α} (hx : l[i]? = some x) (h : OwnT w base e sz f (.slice A l.length c) l) :
    ∃ g cur, A = some ⟨g, 0, none⟩ ∧ base ≤ g ∧ Has w g (rowL cur e) ∧ i * sz + sz ≤ cur.length ∧ (∀ j u, (f x)[j]? = some u → cur[i * sz + j]? = some u) ∧
      ∀ (o : Nat) (u : Value) (y : α), o < sz → f y = (f x).set o u → ∀ w', Has w' g (rowL (cur.set (i * sz + o) u) e) → OwnT w' base e sz f (.slice A l.length c) (l.set i y) := by
  obtain ⟨hl, h⟩ := h
  have hi := (List.getElem?_eq_some_iff.1 hx).1
  have him : i * sz + sz ≤ l.length * sz := by rw [← Nat.succ_mul]; exact Nat.mul_le_mul_right _ hi
  rcases h with ⟨_, h0'⟩ | ⟨g, cap, cur, hv, hg, hh, h1, h2, h3, h4⟩
  · exfalso
    rw [flat_len hf] at hl
    have hz : (l.flatMap f).length = 0 := by rw [flat_len hf]; omega
    omega
  · simp only [Value.slice.injEq] at hv
    obtain ⟨rfl, _, rfl⟩ := hv
    have hcl : cur.toList.length = c * sz := by simpa using h3
    have hlc : l.length * sz ≤ c * sz := Nat.mul_le_mul_right _ h1
    refine ⟨g, cur.toList, rfl, hg, by unfold Has; rw [hh], by omega, fun j u hu => ?_, fun o u y ho hy w' H => ?_⟩
    · have hj := (List.getElem?_eq_some_iff.1 hu).1
      rw [hf] at hj
      have := flat_at hf hx j u hu
      rw [← h4, List.getElem?_take_of_lt (by omega)] at this
      exact this
    · have hset : (l.set i y).length = l.length := List.length_set
      refine ⟨?_, .inr ⟨g, c, ⟨cur.toList.set (i * sz + o) u⟩, by rw [hset], hg, H, by rw [hset]; exact h1, h2, ?_, ?_⟩⟩
      · rw [flat_len hf]
      · show (cur.toList.set (i * sz + o) u).length = _
        rw [List.length_set]; exact hcl
      · show (cur.toList.set (i * sz + o) u).take _ = _
        rw [hset, List.take_set, h4, flat_setT hf ho hx hy]
theorem Runs.strlss {P : Program} {L : Loc} {o : Oper} {w : World} {t : TypeId} {a b : List UInt8} (h : bin? L o = some (.lss, t, .string (str a), .string (str b))) : Runs P L o w (.bool (decide (a < b))) w := by
  refine Runs.bin h (fun _ _ => by simp [eqGuard, Sem.run_pure]) ?_
  simp only [binOp, Op.stringOp, str_toList, Go.Proofs.bytesLess_eq, Sem.run_pure]
end Go.Q
namespace Go.Q
open Go.RowKit
def kone (x : Int) : List Value := [i64 x]
/-- The errors of a right operation of a kind. -/
def mayL (k : Int) : List Int := if k = 1 then [41, 45] else if k = 2 then [40, 43, 45] else if k = 3 then [40, 42, 45] else if k = 4 then [40, 42, 43, 45] else if k = 5 then [40] else []
def AdjP (l : List RowM) (j : Nat) : Prop := ∀ x, l[j]? = some x → 0 ≤ x.amount ∧ ∀ y, 0 < j → l[j - 1]? = some y → y.name < x.name
def AscP (l : List RowM) : Prop := ∀ j, j < l.length → AdjP l j
def FitsP (o : Opm) (r : ReplyM) : Prop :=
  if wrongE o ≠ 0 then r.why = wrongE o ∧ r.amount = 0 ∧ r.rows.length = 0
  else if r.why ≠ 0 then r.why ∈ mayL o.kind ∧ r.amount = 0 ∧ r.rows.length = 0
  else if o.kind = 5 then 0 ≤ r.amount ∧ r.rows.length = 0
  else if o.kind ≠ 6 then r.amount = 0 ∧ r.rows.length = 0
  else r.amount = 0 ∧ AscP r.rows
theorem AscP.zero {l : List RowM} (h : l.length = 0) : AscP l := fun j hj => absurd hj (by omega)
/-- What is kept is kept with an error of its kind. -/
def MayK (K : List KeptM) : Prop := ∀ k ∈ K, k.why = 0 ∨ k.why ∈ mayL k.op.kind
theorem MayK.nil : MayK [] := fun k h => by cases h
/-- What is refused changes no account. -/
theorem act_refused {S : List RowM} {o : Opm} (h : actE S o ≠ 0) : actS S o = S := by
  unfold actE at h
  unfold actS
  repeat' split
  all_goals first | rfl | (exfalso; apply h; simp_all)
end Go.Q
namespace Go.Q
open Go.RowKit
theorem sumR_cons (a : RowM) (S : List RowM) : sumR (a :: S) = a.amount + sumR S := by simp [sumR]
/-- What an operation that is done adds to the sum. -/
def deltaE (o : Opm) : Int := if o.kind = 2 then o.amount else if o.kind = 3 then -o.amount else 0
def SameP (a b : Opm) : Prop := a.frm = b.frm ∧ a.key = b.key ∧ a.kind = b.kind ∧ a.amount = b.amount
/-- What is kept, of the first i operations. -/
structure SumInv (l : List Opm) (i : Nat) (K : List KeptM) : Prop where
  came : ∀ x ∈ K, ∃ j y, j < i ∧ l[j]? = some y ∧ plainE y = x.op
  went : ∀ j y, j < i → l[j]? = some y → wrongE y = 0 → 1 ≤ y.kind ∧ y.kind ≤ 4 → findK K y.frm y.key ≠ none
theorem SumInv.nil (l : List Opm) : SumInv l 0 [] := ⟨fun x h => (by cases h), fun j y h => absurd h (Nat.not_lt_zero _)⟩
theorem SumInv.step {l : List Opm} {i : Nat} {S : List RowM} {K : List KeptM} {o : Opm} (h : SumInv l i K) (ho : l[i]? = some o) : SumInv l (i + 1) (doK S K o) := by
  refine ⟨fun x hx => ?_, fun j y hj hy hw hk => ?_⟩
  · unfold doK at hx
    split at hx
    · rcases List.mem_append.1 hx with hx | hx
      · obtain ⟨j, y, h1, h2⟩ := h.came x hx; exact ⟨j, y, by omega, h2⟩
      · rw [List.mem_singleton.1 hx]; exact ⟨i, o, by omega, ho, rfl⟩
    · obtain ⟨j, y, h1, h2⟩ := h.came x hx; exact ⟨j, y, by omega, h2⟩
  · have key : ∀ z, findK K y.frm y.key = some z → findK (doK S K o) y.frm y.key ≠ none := fun z hz => by rw [findK_pre (doK_pre S K o) hz]; exact fun q => by cases q
    by_cases hji : j < i
    · cases hz : findK K y.frm y.key with
      | none => exact absurd hz (h.went j y hji hy hw hk)
      | some z => exact key z hz
    · obtain rfl : j = i := by omega
      rw [ho] at hy
      obtain rfl := Option.some.inj hy
      cases hz : findK K o.frm o.key with
      | some z => exact key z hz
      | none =>
        have hf : Fresh K o := ⟨hw, by omega, by omega, by omega, hz⟩
        rw [show doK S K o = K ++ [⟨plainE o, actE S (plainE o)⟩] from if_pos hf]
        have e : findK (K ++ [⟨plainE o, actE S (plainE o)⟩]) o.frm o.key = some ⟨plainE o, actE S (plainE o)⟩ := findK_last (x := ⟨plainE o, actE S (plainE o)⟩) hz
        rw [e]
        exact fun q => by cases q
end Go.Q
namespace Go.Q
def heldB (O : List UInt8) : Nat := if O = [] then 0 else 1
def heldL (l : List (List UInt8 × AccV)) : Nat := (l.map fun x => heldB x.2.2).sum
end Go.Q
namespace Go.Q
def cntS (S : List AccM) (k : Nat) : Nat := (S.filter fun a => decide (slotB a.name < k)).length
def restS (S : List AccM) (k : Nat) : List AccM := S.filter fun a => decide (k ≤ slotB a.name)
end Go.Q
namespace Go.Q
section
variable {α : Type} {f : α → List Value} {sz : Nat} {P : Program} {w : World} {t e : TypeId} {A : Option Addr} {c k : Nat} {l : List α}
theorem flat_take (hf : ∀ x, (f x).length = sz) : ∀ (l : List α) (k : Nat), (l.flatMap f).take (k * sz) = (l.take k).flatMap f
  | [], k => by simp
  | x :: l, 0 => by simp
  | x :: l, k + 1 => by
    rw [List.flatMap_cons, List.take_succ_cons, List.flatMap_cons, List.take_append, hf, List.take_of_length_le (by rw [hf, Nat.add_mul]; omega), show (k + 1) * sz - sz = k * sz from by rw [Nat.add_mul]; omega, flat_take hf l k]
theorem flat_drop (hf : ∀ x, (f x).length = sz) : ∀ (l : List α) (k : Nat), (l.flatMap f).drop (k * sz) = (l.drop k).flatMap f
  | [], k => by simp
  | x :: l, 0 => by simp
  | x :: l, k + 1 => by
    rw [List.flatMap_cons, List.drop_succ_cons, List.drop_append, hf, List.drop_of_length_le (by rw [hf, Nat.add_mul]; omega), List.nil_append, show (k + 1) * sz - sz = k * sz from by rw [Nat.add_mul]; omega, flat_drop hf l k]
theorem run_hi (hf : ∀ x, (f x).length = sz) (h0 : 0 < sz) (ht : P.underlying t = some (.slice e)) (hs : size? P e = some sz) (hR : RdT w sz f (.slice A l.length c) l) (hk : k ≤ l.length) :
    (Instr.sliceAt t (.slice A l.length c) none (some (i64 ((k : Nat) : Int))) none).run P w = .ok (.slice A k c) w ∧ RdT w sz f (.slice A k c) (l.take k) := by
  have hc := (RdT.len hf h0 hR).2
  have h := run_cut (sz := sz) (P := P) (w := w) (t := t) (A := A) (n := l.length) (c := c) 0 k c (lo := none) (hi := some (i64 ((k : Nat) : Int))) (mx := none) ht hs (.inl ⟨rfl, rfl⟩) (.inr ⟨_, rfl⟩) (.inl ⟨rfl, rfl⟩) (Nat.zero_le _) (by omega) (Nat.le_refl _)
  have hr := Rd.cut hR 0 k c (Nat.zero_le _) (by omega) (Nat.le_refl _) hk
  have hA0 : (if c = 0 then A else A.map (·.add (0 * sz))) = A := by cases A <;> simp [Addr.add]
  rw [hA0, Nat.sub_zero, Nat.sub_zero] at h hr
  refine ⟨h, ?_⟩
  rw [Nat.zero_mul, List.drop_zero, flat_take hf] at hr
  exact hr
theorem run_lo (hf : ∀ x, (f x).length = sz) (h0 : 0 < sz) (ht : P.underlying t = some (.slice e)) (hs : size? P e = some sz) (hR : RdT w sz f (.slice A l.length c) l) (hk : k ≤ l.length) :
    ∃ A2, (Instr.sliceAt t (.slice A l.length c) (some (i64 ((k : Nat) : Int))) none none).run P w = .ok (.slice A2 (l.length - k) (c - k)) w ∧ RdT w sz f (.slice A2 (l.length - k) (c - k)) (l.drop k) := by
  have hc := (RdT.len hf h0 hR).2
  have h := run_cut (sz := sz) (P := P) (w := w) (t := t) (A := A) (n := l.length) (c := c) k l.length c (lo := some (i64 ((k : Nat) : Int))) (hi := none) (mx := none) ht hs (.inr ⟨_, rfl⟩) (.inl ⟨rfl, rfl, rfl⟩) (.inl ⟨rfl, rfl⟩) hk hc.1 (Nat.le_refl _)
  have hr := Rd.cut hR k l.length c hk hc.1 (Nat.le_refl _) (Nat.le_refl _)
  refine ⟨_, h, ?_⟩
  rw [flat_drop hf, flat_take hf, List.take_of_length_le (by rw [List.length_drop]; omega)] at hr
  exact hr
end
def keepS (S : List AccM) (k : Int) : List AccM := S.filter fun a => decide (((slotB a.name : Nat) : Int) ≠ k)
end Go.Q
namespace Go.Q
open Go.RowKit
def kref (x : KeptM) : List Value := [i64 x.op.kind, .string (str x.op.frm), .string (str x.op.to), i64 x.op.amount, .string (str x.op.key), i64 x.op.slot, i64 x.op.shard, i64 x.why, i64 0, .slice none 0 0]
theorem kref10 (x : KeptM) : (kref x).length = 10 := rfl
theorem kref_one (x : KeptM) : oneCells (kref x) = true := rfl
def posW (S : List RowM) (n : List UInt8) : Nat := (S.takeWhile fun a => decide (a.name < n)).length
theorem posW_le : ∀ (S : List RowM) (n : List UInt8), posW S n ≤ S.length
  | [], _ => Nat.le_refl _
  | a :: S, n => by
    have := posW_le S n
    unfold posW at this ⊢
    rw [List.takeWhile_cons]
    split <;> simp only [List.length_cons, List.length_nil] <;> omega
theorem posW_lt : ∀ {S : List RowM} {n : List UInt8} {i : Nat} {a : RowM}, S[i]? = some a → i < posW S n → a.name < n
  | [], _, _, _, h, _ => by cases h
  | b :: S, n, i, a, h, hi => by
    unfold posW at hi
    rw [List.takeWhile_cons] at hi
    by_cases hb : b.name < n
    · rw [if_pos (by simpa using hb), List.length_cons] at hi
      cases i with
      | zero => simp only [List.getElem?_cons_zero, Option.some.injEq] at h; subst h; exact hb
      | succ i => exact posW_lt (S := S) (by simpa using h) (by unfold posW; omega)
    · rw [if_neg (by simpa using hb)] at hi; cases hi
theorem posW_at : ∀ {S : List RowM} {n : List UInt8} {a : RowM}, S[posW S n]? = some a → ¬ a.name < n
  | [], _, _, h => by cases h
  | b :: S, n, a, h => by
    unfold posW at h
    rw [List.takeWhile_cons] at h
    by_cases hb : b.name < n
    · rw [if_pos (by simpa using hb), List.length_cons, List.getElem?_cons_succ] at h
      exact posW_at (S := S) h
    · rw [if_neg (by simpa using hb)] at h
      simp only [List.length_nil, List.getElem?_cons_zero, Option.some.injEq] at h
      subst h; exact hb
theorem posw_step {S : List RowM} {n : List UInt8} {i : Nat} {a : RowM} (h : S[i]? = some a) (ha : a.name < n) (hi : i ≤ posW S n) : i + 1 ≤ posW S n := by
  rcases Nat.lt_or_eq_of_le hi with hi | hi
  · exact hi
  · exact absurd ha (posW_at (by rw [← hi]; exact h))
theorem posw_exit {S : List RowM} {n : List UInt8} {i : Nat} {a : RowM} (h : S[i]? = some a) (ha : ¬ a.name < n) (hi : i ≤ posW S n) : i = posW S n := by
  rcases Nat.lt_or_eq_of_le hi with hi | hi
  · exact absurd (posW_lt h hi) ha
  · exact hi
theorem posw_end {S : List RowM} {n : List UInt8} {i : Nat} (h : S.length ≤ i) (hi : i ≤ posW S n) : i = posW S n := by have := posW_le S n; omega
def hasW (S : List RowM) (n : List UInt8) : Bool := match S[posW S n]? with | some a => a.name == n | none => false
theorem hasw_at {S : List RowM} {n : List UInt8} {a : RowM} (h : S[posW S n]? = some a) : hasW S n = (a.name == n) := by unfold hasW; rw [h]
theorem hasw_end {S : List RowM} {n : List UInt8} (h : S.length ≤ posW S n) : hasW S n = false := by unfold hasW; rw [List.getElem?_eq_none h]
theorem sortedw_at {S : List RowM} (hS : S.Pairwise (fun a b => ltN a.name b.name)) {i j : Nat} {a b : RowM} (hi : S[i]? = some a) (hj : S[j]? = some b) (h : i < j) : a.name < b.name := by
  obtain ⟨hi1, hi2⟩ := List.getElem?_eq_some_iff.1 hi
  obtain ⟨hj1, hj2⟩ := List.getElem?_eq_some_iff.1 hj
  have := (List.pairwise_iff_getElem.1 hS) i j hi1 hj1 h
  rw [hi2, hj2] at this
  exact this
theorem findw_some {S : List RowM} (hS : Led S) {n : List UInt8} {a : RowM} (h : getW S n = some a) : hasW S n = true ∧ S[posW S n]? = some a := by
  obtain ⟨hm, rfl⟩ := getW_some h
  obtain ⟨i, hi⟩ := List.getElem?_of_mem hm
  have hp : i = posW S a.name := by
    rcases Nat.lt_trichotomy i (posW S a.name) with h1 | h1 | h1
    · exact absurd (posW_lt hi h1) (ltN_irrefl _)
    · exact h1
    · obtain ⟨b, hb⟩ : ∃ b, S[posW S a.name]? = some b := ⟨_, List.getElem?_eq_getElem (by have := (List.getElem?_eq_some_iff.1 hi).1; omega)⟩
      exact absurd (sortedw_at hS.sorted hb hi h1) (posW_at hb)
  rw [← hp]
  exact ⟨by rw [hasw_at (a := a) (by rw [← hp]; exact hi)]; exact beq_self_eq_true _, hi⟩
theorem findw_none {S : List RowM} {n : List UInt8} (h : getW S n = none) : hasW S n = false := by
  unfold hasW
  cases ha : S[posW S n]? with
  | none => rfl
  | some a => exact beq_eq_false_iff_ne.2 (getW_none h a (List.mem_of_getElem? ha))
theorem insw_split : ∀ (S : List RowM) (a : RowM), S.take (posW S a.name) ++ ([a] ++ S.drop (posW S a.name)) = insW S a
  | [], a => rfl
  | b :: S, a => by
    have ih := insw_split S a
    unfold posW at ih ⊢
    unfold insW
    rw [List.takeWhile_cons]
    by_cases hb : b.name < a.name
    · rw [if_pos (by simpa using hb), if_pos hb, List.length_cons, List.take_succ_cons, List.drop_succ_cons, List.cons_append, ih]
    · rw [if_neg (by simpa using hb), if_neg hb]; rfl
theorem setw_at {S : List RowM} (hS : Led S) {n : List UInt8} {a : RowM} (h : getW S n = some a) (x : Int) : setW S n x = S.set (posW S n) ⟨n, x⟩ := by
  have hf := (findw_some hS h).2
  obtain ⟨hl, hq⟩ := List.getElem?_eq_some_iff.1 hf
  obtain ⟨hm, hn⟩ := getW_some h
  unfold setW
  apply List.ext_getElem?
  intro i
  rw [List.getElem?_map, List.getElem?_set]
  by_cases hi : posW S n = i
  · subst hi
    rw [if_pos rfl, if_pos hl, hf]
    show some (if a.name = n then (⟨n, x⟩ : RowM) else a) = _
    rw [if_pos hn]
  · rw [if_neg hi]
    cases hb : S[i]? with
    | none => rfl
    | some b =>
      show some (if b.name = n then (⟨n, x⟩ : RowM) else b) = _
      rw [if_neg]
      intro e
      rcases Nat.lt_or_gt_of_ne hi with h1 | h1
      · have := sortedw_at hS.sorted hf hb h1; rw [hn, e] at this; exact ltN_irrefl _ this
      · have := sortedw_at hS.sorted hb hf h1; rw [hn, e] at this; exact ltN_irrefl _ this
theorem sumR_nonneg : ∀ {S : List RowM}, (∀ a ∈ S, 0 ≤ a.amount) → 0 ≤ sumR S
  | [], _ => Int.le_refl 0
  | a :: S, h => by
    have h1 := h a (List.mem_cons_self ..)
    have h2 := sumR_nonneg (S := S) fun b hb => h b (List.mem_cons_of_mem _ hb)
    rw [sumR_cons]
    omega
theorem sumR_rest {S : List RowM} (h : Led S) {i : Nat} {a : RowM} (ha : S[i]? = some a) : sumR (S.take i) + a.amount ≤ sumR S := by
  have e : S = S.take (i + 1) ++ S.drop (i + 1) := (List.take_append_drop _ _).symm
  have h1 : sumR S = sumR (S.take (i + 1)) + sumR (S.drop (i + 1)) := by rw [← sumR_app, ← e]
  have h2 := sumR_nonneg (S := S.drop (i + 1)) fun b hb => (h.ok b (List.mem_of_mem_drop hb)).lo
  have h3 := sumR_take ha
  omega
theorem setw2_at {S : List RowM} (hS : Led S) {f t : List UInt8} {a b : RowM} (hg : getW S f = some a) (ht : getW S t = some b) (hne : f ≠ t) (x y : Int) : setW (setW S t x) f y = (S.set (posW S t) ⟨t, x⟩).set (posW S f) ⟨f, y⟩ := by
  have hf := (findw_some hS hg).2
  have htt := (findw_some hS ht).2
  have e1 := setw_at hS ht x
  have e2 := setw_at hS hg y
  have hn := (getW_some hg).2
  have hm := (getW_some ht).2
  have hpq : posW S t ≠ posW S f := fun q => by rw [q, hf] at htt; injection htt with q2; exact hne (by rw [← hn, ← hm, q2])
  apply List.ext_getElem?
  intro i
  have e3 : (setW (setW S t x) f y)[i]? = ((setW S t x)[i]?).map fun a => if a.name = f then ⟨f, y⟩ else a := List.getElem?_map ..
  rw [e3, e1, List.getElem?_set, List.getElem?_set, List.getElem?_set]
  have e4 : (setW S f y)[i]? = (S.set (posW S f) ⟨f, y⟩)[i]? := by rw [e2]
  rw [show (setW S f y)[i]? = (S[i]?).map (fun a => if a.name = f then (⟨f, y⟩ : RowM) else a) from List.getElem?_map .., List.getElem?_set] at e4
  by_cases h1 : posW S t = i
  · have h2 : ¬ posW S f = i := fun q => hpq (h1.trans q.symm)
    have hl := (List.getElem?_eq_some_iff.1 htt).1
    rw [if_pos h1, if_neg h2, if_pos hl]
    show some (if t = f then (⟨f, y⟩ : RowM) else ⟨t, x⟩) = _
    rw [if_neg (fun q => hne q.symm)]
  · rw [if_neg h1, e4, List.length_set]
theorem hasw_get {S : List RowM} (hS : Led S) {n : List UInt8} (h : hasW S n = true) : ∃ a, getW S n = some a ∧ S[posW S n]? = some a := by
  cases hg : getW S n with
  | none => rw [findw_none hg] at h; cases h
  | some a => exact ⟨a, rfl, (findw_some hS hg).2⟩
theorem hasw_none {S : List RowM} (hS : Led S) {n : List UInt8} (h : hasW S n = false) : getW S n = none := by
  cases hg : getW S n with
  | none => rfl
  | some a => rw [(findw_some hS hg).1] at h; cases h
theorem findK_no {K : List KeptM} {f k : List UInt8} (h : ∀ (j : Nat) y, K[j]? = some y → ¬ (y.op.frm = f ∧ y.op.key = k)) : findK K f k = none := by
  cases hf : findK K f k with
  | none => rfl
  | some x =>
    obtain ⟨hm, h1, h2⟩ := findK_some hf
    obtain ⟨j, hj⟩ := List.getElem?_of_mem hm
    exact absurd ⟨h1, h2⟩ (h j x hj)
theorem findK_is {S : List RowM} {K : List KeptM} (hL : Ledg S K) {i : Nat} {x : KeptM} {f k : List UInt8} (hx : K[i]? = some x) (h1 : x.op.frm = f) (h2 : x.op.key = k) : findK K f k = some x := by
  subst h1; subst h2
  exact getM_at (by rw [kv_fst]; exact hL.ids) (i := i) (y := x.kv) (by rw [List.getElem?_map, hx]; rfl) rfl
theorem no_step {K : List KeptM} {i : Nat} {x : KeptM} {f k : List UInt8} (hx : K[i]? = some x) (h : ∀ j y, j < i → K[j]? = some y → ¬ (y.op.frm = f ∧ y.op.key = k)) (hn : ¬ (x.op.frm = f ∧ x.op.key = k)) : ∀ j y, j < i + 1 → K[j]? = some y → ¬ (y.op.frm = f ∧ y.op.key = k) := by
  intro j y hj hy
  by_cases hji : j < i
  · exact h j y hji hy
  · obtain rfl : j = i := by omega
    rw [hx] at hy
    obtain rfl := Option.some.inj hy
    exact hn
def posK (l : List KeptM) (x : KeptM) : Nat := (l.takeWhile fun y => decide (ltI y.id x.id)).length
theorem posk_le : ∀ (l : List KeptM) (x : KeptM), posK l x ≤ l.length
  | [], _ => Nat.le_refl _
  | y :: l, x => by
    have := posk_le l x
    unfold posK at this ⊢
    rw [List.takeWhile_cons]
    split <;> simp only [List.length_cons, List.length_nil] <;> omega
theorem posk_lt : ∀ {l : List KeptM} {x z : KeptM} {i : Nat}, l[i]? = some z → i < posK l x → ltI z.id x.id
  | [], _, _, _, h, _ => by cases h
  | y :: l, x, z, i, h, hi => by
    unfold posK at hi
    rw [List.takeWhile_cons] at hi
    by_cases hb : ltI y.id x.id
    · rw [if_pos (by simpa using hb), List.length_cons] at hi
      cases i with
      | zero => simp only [List.getElem?_cons_zero, Option.some.injEq] at h; subst h; exact hb
      | succ i => exact posk_lt (l := l) (by simpa using h) (by unfold posK; omega)
    · rw [if_neg (by simpa using hb)] at hi; cases hi
theorem posk_at : ∀ {l : List KeptM} {x z : KeptM}, l[posK l x]? = some z → ¬ ltI z.id x.id
  | [], _, _, h => by cases h
  | y :: l, x, z, h => by
    unfold posK at h
    rw [List.takeWhile_cons] at h
    by_cases hb : ltI y.id x.id
    · rw [if_pos (by simpa using hb), List.length_cons, List.getElem?_cons_succ] at h
      exact posk_at (l := l) h
    · rw [if_neg (by simpa using hb)] at h
      simp only [List.length_nil, List.getElem?_cons_zero, Option.some.injEq] at h
      subst h; exact hb
theorem posk_step {l : List KeptM} {x z : KeptM} {i : Nat} (h : l[i]? = some z) (ha : ltI z.id x.id) (hi : i ≤ posK l x) : i + 1 ≤ posK l x := by
  rcases Nat.lt_or_eq_of_le hi with hi | hi
  · exact hi
  · exact absurd ha (posk_at (by rw [← hi]; exact h))
theorem posk_exit {l : List KeptM} {x z : KeptM} {i : Nat} (h : l[i]? = some z) (ha : ¬ ltI z.id x.id) (hi : i ≤ posK l x) : i = posK l x := by
  rcases Nat.lt_or_eq_of_le hi with hi | hi
  · exact absurd (posk_lt h hi) ha
  · exact hi
theorem posk_end {l : List KeptM} {x : KeptM} {i : Nat} (h : l.length ≤ i) (hi : i ≤ posK l x) : i = posK l x := by have := posk_le l x; omega
theorem insk_split : ∀ (l : List KeptM) (x : KeptM), insK l x = l.take (posK l x) ++ ([x] ++ l.drop (posK l x))
  | [], x => rfl
  | y :: l, x => by
    have ih := insk_split l x
    unfold posK at ih ⊢
    unfold insK
    rw [List.takeWhile_cons]
    by_cases hb : ltI y.id x.id
    · rw [if_pos hb, if_pos (decide_eq_true hb), List.length_cons, List.take_succ_cons, List.drop_succ_cons, List.cons_append, ih]
    · rw [if_neg hb, if_neg (show ¬ (decide (ltI y.id x.id) = true) by simpa using hb)]; rfl
theorem sortk_take {K : List KeptM} {i : Nat} {x : KeptM} (h : K[i]? = some x) : sortK (K.take (i + 1)) = insK (sortK (K.take i)) x := by
  unfold sortK
  rw [List.take_add_one, h, Option.toList_some, List.foldl_append]
  rfl
theorem nlt_id {z x : KeptM} (h1 : ¬ z.op.frm < x.op.frm) (h2 : ¬ (z.op.frm = x.op.frm ∧ z.op.key < x.op.key)) : ¬ ltI z.id x.id := fun q => q.elim h1 h2
/-- An own row is opened at two elements. -/
theorem OwnT.open2 {α : Type} {f : α → List Value} {sz : Nat} (hf : ∀ x, (f x).length = sz) (h0 : 0 < sz) {w : World} {base e i k c : Nat} {A : Option Addr} {l : List α} {x z : α} (hx : l[i]? = some x) (hz : l[k]? = some z) (hne : i ≠ k) (h : OwnT w base e sz f (.slice A l.length c) l) :
    ∃ g cur, A = some ⟨g, 0, none⟩ ∧ base ≤ g ∧ Has w g (rowL cur e) ∧ i * sz + sz ≤ cur.length ∧ k * sz + sz ≤ cur.length ∧ (∀ j u, (f x)[j]? = some u → cur[i * sz + j]? = some u) ∧ (∀ j u, (f z)[j]? = some u → cur[k * sz + j]? = some u) ∧
      (∀ (o : Nat) (u : Value) (y : α), o < sz → f y = (f x).set o u → ∀ w', Has w' g (rowL (cur.set (i * sz + o) u) e) → OwnT w' base e sz f (.slice A l.length c) (l.set i y)) ∧
      ∀ (o o' : Nat) (u u' : Value) (y y' : α), o < sz → o' < sz → f y = (f z).set o u → f y' = (f x).set o' u' → ∀ w', Has w' g (rowL ((cur.set (k * sz + o) u).set (i * sz + o') u') e) → OwnT w' base e sz f (.slice A l.length c) ((l.set k y).set i y') := by
  obtain ⟨g, cur, hA, hb, Hg, hl, hc, hp⟩ := OwnT.open hf h0 hx h
  obtain ⟨g2, cur2, hA2, hb2, Hg2, hl2, hc2, hp2⟩ := OwnT.open hf h0 hz h
  have eg : g2 = g := by rw [hA] at hA2; injection hA2 with q; injection q with q; exact q.symm
  subst eg
  have ec : cur2 = cur := by
    have q := Hg.symm.trans Hg2
    injection q with q
    injection q with q
    have := congrArg Array.toList q
    exact this.symm
  subst ec
  refine ⟨g2, cur2, hA, hb, Hg, hl, hl2, hc, hc2, hp, fun o o' u u' y y' ho ho' hy hy' w' H => ?_⟩
  have hglt := Hg.lt
  let w1 : World := { w with heap := w.heap.set g2 (rowL (cur2.set (k * sz + o) u) e) hglt }
  have H1 : Has w1 g2 (rowL (cur2.set (k * sz + o) u) e) := by
    show (w.heap.set g2 _ hglt)[g2]? = _
    simp
  have hO1 := hp2 o u y ho hy w1 H1
  have hlen : (l.set k y).length = l.length := List.length_set
  rw [← hlen] at hO1
  have hx1 : (l.set k y)[i]? = some x := by rw [List.getElem?_set_ne (Ne.symm hne)]; exact hx
  obtain ⟨g3, cur3, hA3, hb3, Hg3, hl3, hc3, hp3⟩ := OwnT.open hf h0 hx1 hO1
  have eg : g3 = g2 := by rw [hA] at hA3; injection hA3 with q; injection q with q; exact q.symm
  subst eg
  have ec : cur3 = cur2.set (k * sz + o) u := by
    have q := H1.symm.trans Hg3
    injection q with q
    injection q with q
    have := congrArg Array.toList q
    exact this.symm
  subst ec
  have := hp3 o' u' y' ho' hy' w' H
  rw [hlen] at this
  exact this
end Go.Q
namespace Go.Proofs.YtnfeemhpoaflfaaGreatDoor
open Go.Q Go.RowKit

theorem Rfind_calls (w : World) (r : Nat) (A : Option Addr) (c : Nat) (S : List RowM) (B : Option Addr) (d : Nat) (K : List KeptM) (n : List UInt8) (Hr : Has w r (rowL [.slice A S.length c, .slice B K.length d] 45)) (hR : RdT w 2 RowM.cells (.slice A S.length c) S) (hQ : RdT w 10 kref (.slice B K.length d) K) : Calls Tryz.prog 40 ⟨[(ptr r), (Value.string (str n))]⟩ w (fun e w' => e = .returned (.tuple #[i64 ((posW S n : Nat) : Int), .bool (hasW S n)]) ∧ Keeps none_ w w') := by
 have Hrl := Hr.lt
 have hcap := RdT.len RowM.two (by decide) hR
 have hcapk := RdT.len kref10 (by decide) hQ
 unfold maxLen at hcap hcapk
 have K0 : Keeps none_ w w := Keeps.refl w
 refine q_calls Tryz.func40 (by kernel_rfl) (by kernel_rfl) ?_
 refine qs ?_
 refine qg ?_
 refine og 2 [(0, (ptr r)), (1, (Value.string (str n))), (4, (i64 0)), (5, (Value.bool false))] 2 ?_
 refine od ?_
 refine qs ?_
 refine qg ?_
 refine og 1 [(0, (ptr r)), (1, (Value.string (str n))), (4, (i64 0)), (5, (Value.bool false)), (6, (i64 0))] 1 ?_
 refine od ?_
 refine qs ?_
 refine q_block (id := 0) (by kernel_rfl) ?_
 refine q_keep (R := [(0, (ptr r)), (1, (Value.string (str n))), (4, (i64 0)), (5, (Value.bool false)), (6, (i64 0))]) (by kernel_rfl) ?_
 refine q_loop (fun (i : Nat) L (wx : World) => L = [(0, (ptr r)), (1, (Value.string (str n))), (4, (i64 0)), (5, (Value.bool false)), (6, (i64 ((i : Nat) : Int)))] ∧ i ≤ posW S n ∧ Keeps none_ w wx ∧ Has wx r (rowL [(Value.slice A S.length c), (Value.slice B K.length d)] 45)) (fun (i : Nat) => S.length - i) 0 (by kernel_rfl) ⟨rfl, Nat.zero_le _, K0, Hr⟩ ?_
 clear Hr K0
 rintro i _ w1 ⟨rfl, hi, K2, H3⟩
 have hpl := posW_le S n
 refine qs ?_
 refine qs ?_
 refine qg ?_
 refine og 4 [(0, (ptr r)), (1, (Value.string (str n))), (4, (i64 0)), (5, (Value.bool false)), (6, (i64 ((i : Nat) : Int))), (7, (i64 ((i : Nat) : Int))), (10, (ptr r))] 4 ?_
 refine Ops.go (v := (Value.slice A S.length c)) (by kernel_rfl) (Runs.load (t := 28) (a := ⟨r, 0, none⟩) (by kernel_rfl) (H3.loads (by kernel_rfl))) (d := (some 11)) (by kernel_rfl) rfl ?_
 refine og 3 [(0, (ptr r)), (1, (Value.string (str n))), (4, (i64 0)), (5, (Value.bool false)), (6, (i64 ((i : Nat) : Int))), (14, (Value.bool (decide (((i : Nat) : Int) < ((S.length : Nat) : Int)))))] 8 ?_
 refine Ops.split (decide (((i : Nat) : Int) < ((S.length : Nat) : Int))) (fun h4 => ?_) (fun h4 => ?_)
 ·rw [h4]
  have p5 : ((i : Nat) : Int) < ((S.length : Nat) : Int) := of_decide_eq_true h4
  obtain ⟨a, ha⟩ : ∃ y, S[i]? = some y := ⟨_, List.getElem?_eq_getElem (by omega)⟩
  obtain ⟨rb6, ro7, hA8⟩ := Rd.addr (Rd.keep0 (by decide) hR K2) (by omega)
  refine og 3 [(0, (ptr r)), (1, (Value.string (str n))), (4, (i64 0)), (5, (Value.bool false)), (6, (i64 ((i : Nat) : Int))), (14, (Value.bool true)), (17, (ptr r))] 11 ?_
  refine Ops.go (v := (Value.slice A S.length c)) (by kernel_rfl) (Runs.load (t := 28) (a := ⟨r, 0, none⟩) (by kernel_rfl) (H3.loads (by kernel_rfl))) (d := (some 18)) (by kernel_rfl) rfl ?_
  refine og 1 [(0, (ptr r)), (1, (Value.string (str n))), (4, (i64 0)), (5, (Value.bool false)), (6, (i64 ((i : Nat) : Int))), (14, (Value.bool true)), (18, (Value.slice A S.length c)), (19, (i64 ((i : Nat) : Int)))] 13 ?_
  refine Ops.go (by kernel_rfl) (Runs.ixSliceE (k := IntKind.i64) (t := 28) (len := S.length) (cap := c) (s := 2) (off' := ro7 + i * 2) (i := ((i : Nat) : Int)) hA8 (by kernel_rfl) (by kernel_rfl) (by omega) (by omega) (by omega)) (d := (some 20)) (by kernel_rfl) rfl ?_
  refine og 1 [(0, (ptr r)), (1, (Value.string (str n))), (4, (i64 0)), (5, (Value.bool false)), (6, (i64 ((i : Nat) : Int))), (14, (Value.bool true)), (21, (Value.pointer (some ⟨rb6, ro7 + i * 2, none⟩)))] 15 ?_
  refine Ops.go (v := (Value.string (str a.name))) (by kernel_rfl) (Runs.load (t := 9) (a := ⟨rb6, ro7 + i * 2, none⟩) (by kernel_rfl) (RdT.ldf (f := RowM.cells) (x := a) (o := 0) RowM.two (Rd.keep0 (by decide) hR K2) (by kernel_rfl) hA8 ha rfl)) (d := (some 22)) (by kernel_rfl) rfl ?_
  refine og 1 [(0, (ptr r)), (1, (Value.string (str n))), (4, (i64 0)), (5, (Value.bool false)), (6, (i64 ((i : Nat) : Int))), (14, (Value.bool true)), (22, (Value.string (str a.name))), (23, (Value.string (str n)))] 17 ?_
  refine Ops.go (v := (Value.bool (decide (a.name < n)))) (by kernel_rfl) (Runs.strlss (t := 9) (by kernel_rfl)) (d := (some 24)) (by kernel_rfl) rfl ?_
  refine og 1 [(0, (ptr r)), (1, (Value.string (str n))), (4, (i64 0)), (5, (Value.bool false)), (6, (i64 ((i : Nat) : Int))), (25, (Value.bool (decide (a.name < n))))] 19 ?_
  refine od ?_
  refine q_cond (o := .tmp 25) (b := (decide (a.name < n))) (by kernel_rfl) rfl (fun h9 => ?_) (fun h9 => ?_)
  ·rw [h9]
   have p10 : (decide (a.name < n)) = true := h9
   have hlt := of_decide_eq_true h9
   refine q_skip (by kernel_rfl) ?_
   refine q_block (id := 1) (by kernel_rfl) ?_
   refine qg ?_
   refine og 2 [(0, (ptr r)), (1, (Value.string (str n))), (4, (i64 0)), (5, (Value.bool false)), (6, (i64 ((i : Nat) : Int))), (25, (Value.bool true)), (27, (i64 (IntKind.i64.wrap (((i : Nat) : Int) + 1))))] 2 ?_
   have e11 : IntKind.i64.wrap (((i : Nat) : Int) + 1) = ((i + 1 : Nat) : Int) := by rw [wrap_i64 (by omega) (by omega)]; omega
   rw [e11]
   clear e11
   refine og 1 [(0, (ptr r)), (1, (Value.string (str n))), (4, (i64 0)), (5, (Value.bool false)), (6, (i64 ((i + 1 : Nat) : Int))), (25, (Value.bool true))] 3 ?_
   refine Ops.keep (R := [(0, (ptr r)), (1, (Value.string (str n))), (4, (i64 0)), (5, (Value.bool false)), (6, (i64 ((i + 1 : Nat) : Int)))]) (by kernel_rfl) ?_
   refine od ?_
   exact ⟨i + 1, ⟨rfl, (posw_step ha hlt hi), K2, H3⟩, (show S.length - (i + 1) < S.length - i from by omega)⟩
  ·rw [h9]
   have p12 : (decide (a.name < n)) = false := h9
   have hpe := posw_exit ha (of_decide_eq_false h9) hi
   refine q_exit (id := 0) (by kernel_rfl) ?_
   refine qs ?_
   refine q_draw (fun wz => Keeps none_ w1 wz) 22 (by kernel_rfl) (by kernel_rfl) (by kernel_rfl) (fun w13 K14 _ _ => ⟨K14, ?_⟩)
   replace K2 := K2.trans K14 (U := none_) (fun i h1 h2 => h2) (fun i h1 h2 => by exact h2)
   replace H3 := H3.keep K14 (fun h => h)
   refine Dr.strong (S' := (fun wz => Keeps none_ w13 wz)) (Keeps.refl w13) (fun wz hx => K14.trans hx (fun i _ h => h) (fun _ _ h => h)) ?_
   clear K14
   refine Dr.takes (fuel' := 17) (is' := [4, 3, 2, 1, 0]) [0, 1, 2, 3, 4] [(0, (ptr r)), (1, (Value.string (str n))), (4, (i64 0)), (5, (Value.bool false)), (6, (i64 ((i : Nat) : Int))), (28, (i64 ((i : Nat) : Int))), (29, (i64 ((i : Nat) : Int))), (32, (ptr r))] (by kernel_rfl) rfl (by kernel_rfl) ?_
   refine Dr.take (i := 5) (v := (Value.slice A S.length c)) (by kernel_rfl) (by kernel_rfl) (fun wz hS => Runs.load (t := 28) (a := ⟨r, 0, none⟩) (by kernel_rfl) ((H3.keep hS (fun h => h)).loads (by kernel_rfl))) (d := (some 33)) (by kernel_rfl) rfl ?_
   refine Dr.takes (fuel' := 12) (is' := [20, 8, 7, 6, 5, 4, 3, 2, 1, 0]) [6, 7, 8, 20] [(0, (ptr r)), (1, (Value.string (str n))), (4, (i64 ((i : Nat) : Int))), (5, (Value.bool false)), (6, (i64 ((i : Nat) : Int))), (36, (Value.bool (decide (((i : Nat) : Int) < ((S.length : Nat) : Int)))))] (by kernel_rfl) rfl (by kernel_rfl) ?_
   rw [h4]
   refine Dr.takes (fuel' := 9) (is' := [11, 10, 9, 20, 8, 7, 6, 5, 4, 3, 2, 1, 0]) [9, 10, 11] [(1, (Value.string (str n))), (4, (i64 ((i : Nat) : Int))), (5, (Value.bool false)), (6, (i64 ((i : Nat) : Int))), (36, (Value.bool true)), (39, (ptr r))] (by kernel_rfl) rfl (by kernel_rfl) ?_
   refine Dr.take (i := 12) (v := (Value.slice A S.length c)) (by kernel_rfl) (by kernel_rfl) (fun wz hS => Runs.load (t := 28) (a := ⟨r, 0, none⟩) (by kernel_rfl) ((H3.keep hS (fun h => h)).loads (by kernel_rfl))) (d := (some 40)) (by kernel_rfl) rfl ?_
   refine Dr.takes (fuel' := 7) (is' := [13, 12, 11, 10, 9, 20, 8, 7, 6, 5, 4, 3, 2, 1, 0]) [13] [(1, (Value.string (str n))), (4, (i64 ((i : Nat) : Int))), (5, (Value.bool false)), (36, (Value.bool true)), (40, (Value.slice A S.length c)), (41, (i64 ((i : Nat) : Int)))] (by kernel_rfl) rfl (by kernel_rfl) ?_
   refine Dr.take (i := 14) (v := (Value.pointer (some ⟨rb6, ro7 + i * 2, none⟩))) (by kernel_rfl) (by kernel_rfl) (fun wz hS => Runs.ixSliceE (k := IntKind.i64) (t := 28) (len := S.length) (cap := c) (s := 2) (off' := ro7 + i * 2) (i := ((i : Nat) : Int)) hA8 (by kernel_rfl) (by kernel_rfl) (by omega) (by omega) (by omega)) (d := (some 42)) (by kernel_rfl) rfl ?_
   refine Dr.takes (fuel' := 5) (is' := [15, 14, 13, 12, 11, 10, 9, 20, 8, 7, 6, 5, 4, 3, 2, 1, 0]) [15] [(1, (Value.string (str n))), (4, (i64 ((i : Nat) : Int))), (5, (Value.bool false)), (36, (Value.bool true)), (43, (Value.pointer (some ⟨rb6, ro7 + i * 2, none⟩)))] (by kernel_rfl) rfl (by kernel_rfl) ?_
   refine Dr.take (i := 16) (v := (Value.string (str a.name))) (by kernel_rfl) (by kernel_rfl) (fun wz hS => Runs.load (t := 9) (a := ⟨rb6, ro7 + i * 2, none⟩) (by kernel_rfl) (RdT.ldf (f := RowM.cells) (x := a) (o := 0) RowM.two (Rd.keep0 (by decide) hR (K2.trans hS (fun _ _ h => h) (fun _ _ h => h))) (by kernel_rfl) hA8 ha rfl)) (d := (some 44)) (by kernel_rfl) rfl ?_
   refine Dr.takes (fuel' := 3) (is' := [17, 16, 15, 14, 13, 12, 11, 10, 9, 20, 8, 7, 6, 5, 4, 3, 2, 1, 0]) [17] [(4, (i64 ((i : Nat) : Int))), (5, (Value.bool false)), (36, (Value.bool true)), (44, (Value.string (str a.name))), (45, (Value.string (str n)))] (by kernel_rfl) rfl (by kernel_rfl) ?_
   refine Dr.take (i := 18) (v := (Value.bool (a.name == n))) (by kernel_rfl) (by kernel_rfl) (fun wz hS => Runs.streq (t := 9) (by kernel_rfl)) (d := (some 46)) (by kernel_rfl) rfl ?_
   refine Dr.takes (fuel' := 0) (is' := [21, 19, 18, 17, 16, 15, 14, 13, 12, 11, 10, 9, 20, 8, 7, 6, 5, 4, 3, 2, 1, 0]) [19, 21] [(4, (i64 ((i : Nat) : Int))), (5, (Value.bool (a.name == n)))] (by kernel_rfl) rfl (by kernel_rfl) ?_
   refine Dr.done (by kernel_rfl) ?_
   refine q_ret (by kernel_rfl) ?_
   refine ⟨(Value.tuple #[(i64 ((i : Nat) : Int)), (Value.bool (a.name == n))]), retv_tmp2 rfl rfl rfl, ?_⟩
   have e : hasW S n = (a.name == n) := hasw_at (by rw [← hpe]; exact ha)
   exact ⟨by rw [e, ← hpe], K2⟩
 ·rw [h4]
  have p15 : ¬ (((i : Nat) : Int) < ((S.length : Nat) : Int)) := of_decide_eq_false h4
  refine og 11 [(0, (ptr r)), (1, (Value.string (str n))), (4, (i64 0)), (5, (Value.bool false)), (6, (i64 ((i : Nat) : Int))), (25, (Value.bool false))] 19 ?_
  refine od ?_
  refine q_else (o := .tmp 25) (by kernel_rfl) rfl ?_
  refine q_exit (id := 0) (by kernel_rfl) ?_
  refine qs ?_
  refine q_draw (fun wz => Keeps none_ w1 wz) 22 (by kernel_rfl) (by kernel_rfl) (by kernel_rfl) (fun w16 K17 _ _ => ⟨K17, ?_⟩)
  replace K2 := K2.trans K17 (U := none_) (fun i h1 h2 => h2) (fun i h1 h2 => by exact h2)
  replace H3 := H3.keep K17 (fun h => h)
  refine Dr.strong (S' := (fun wz => Keeps none_ w16 wz)) (Keeps.refl w16) (fun wz hx => K17.trans hx (fun i _ h => h) (fun _ _ h => h)) ?_
  clear K17
  refine Dr.takes (fuel' := 17) (is' := [4, 3, 2, 1, 0]) [0, 1, 2, 3, 4] [(0, (ptr r)), (1, (Value.string (str n))), (4, (i64 0)), (5, (Value.bool false)), (6, (i64 ((i : Nat) : Int))), (28, (i64 ((i : Nat) : Int))), (29, (i64 ((i : Nat) : Int))), (32, (ptr r))] (by kernel_rfl) rfl (by kernel_rfl) ?_
  refine Dr.take (i := 5) (v := (Value.slice A S.length c)) (by kernel_rfl) (by kernel_rfl) (fun wz hS => Runs.load (t := 28) (a := ⟨r, 0, none⟩) (by kernel_rfl) ((H3.keep hS (fun h => h)).loads (by kernel_rfl))) (d := (some 33)) (by kernel_rfl) rfl ?_
  refine Dr.takes (fuel' := 12) (is' := [20, 8, 7, 6, 5, 4, 3, 2, 1, 0]) [6, 7, 8, 20] [(0, (ptr r)), (1, (Value.string (str n))), (4, (i64 ((i : Nat) : Int))), (5, (Value.bool false)), (6, (i64 ((i : Nat) : Int))), (36, (Value.bool (decide (((i : Nat) : Int) < ((S.length : Nat) : Int)))))] (by kernel_rfl) rfl (by kernel_rfl) ?_
  rw [h4]
  refine Dr.takes (fuel' := 0) (is' := [21, 19, 18, 17, 16, 15, 14, 13, 12, 11, 10, 9, 20, 8, 7, 6, 5, 4, 3, 2, 1, 0]) [9, 10, 11, 12, 13, 14, 15, 16, 17, 18, 19, 21] [(4, (i64 ((i : Nat) : Int))), (5, (Value.bool false))] (by kernel_rfl) rfl (by kernel_rfl) ?_
  refine Dr.done (by kernel_rfl) ?_
  refine q_ret (by kernel_rfl) ?_
  refine ⟨(Value.tuple #[(i64 ((i : Nat) : Int)), (Value.bool false)]), retv_tmp2 rfl rfl rfl, ?_⟩
  have hpe := posw_end (by omega) hi
  have e : hasW S n = false := hasw_end (by omega)
  exact ⟨by rw [e, ← hpe], K2⟩

theorem RSum_calls (w : World) (r : Nat) (A : Option Addr) (c : Nat) (S : List RowM) (B : Option Addr) (d : Nat) (K : List KeptM) (Hr : Has w r (rowL [.slice A S.length c, .slice B K.length d] 45)) (hR : RdT w 2 RowM.cells (.slice A S.length c) S) (hQ : RdT w 10 kref (.slice B K.length d) K) (hS : Led S) : Calls Tryz.prog 18 ⟨[(ptr r)]⟩ w (fun e w' => e = .returned (.tuple #[i64 (sumE S).1, i64 (sumE S).2]) ∧ Keeps none_ w w') := by
 have Hrl := Hr.lt
 have hcap := RdT.len RowM.two (by decide) hR
 have hcapk := RdT.len kref10 (by decide) hQ
 unfold maxLen at hcap hcapk
 have K0 : Keeps none_ w w := Keeps.refl w
 refine q_calls Tryz.func18 (by kernel_rfl) (by kernel_rfl) ?_
 refine qs ?_
 refine qg ?_
 refine og 2 [(0, (ptr r)), (2, (i64 0)), (3, (i64 0))] 2 ?_
 refine od ?_
 refine qs ?_
 refine qg ?_
 refine og 1 [(0, (ptr r)), (2, (i64 0)), (3, (i64 0)), (4, (i64 0))] 1 ?_
 refine od ?_
 refine qs ?_
 refine qs ?_
 refine qg ?_
 refine og 1 [(0, (ptr r)), (2, (i64 0)), (3, (i64 0)), (4, (i64 0)), (5, (i64 0))] 1 ?_
 refine od ?_
 refine q_block (id := 0) (by kernel_rfl) ?_
 refine q_keep (R := [(0, (ptr r)), (4, (i64 0)), (5, (i64 0))]) (by kernel_rfl) ?_
 refine q_loop (fun (gs : Nat × Int) L (wx : World) => match gs with | (i, T) => L = [(0, (ptr r)), (4, (i64 T)), (5, (i64 ((i : Nat) : Int)))] ∧ i ≤ S.length ∧ T = sumR (S.take i) ∧ (0 ≤ T ∧ T ≤ 9223372036854775807) ∧ Keeps none_ w wx ∧ Has wx r (rowL [(Value.slice A S.length c), (Value.slice B K.length d)] 45)) (fun (gs : Nat × Int) => match gs with | (i, T) => S.length - i) (0, 0) (by kernel_rfl) ⟨rfl, Nat.zero_le _, rfl, (by omega), K0, Hr⟩ ?_
 clear Hr K0
 rintro ⟨i, T⟩ _ w1 ⟨rfl, hi, hT, hT0, K2, H3⟩
 refine qs ?_
 refine qs ?_
 refine qg ?_
 refine og 4 [(0, (ptr r)), (4, (i64 T)), (5, (i64 ((i : Nat) : Int))), (6, (i64 ((i : Nat) : Int))), (9, (ptr r))] 4 ?_
 refine Ops.go (v := (Value.slice A S.length c)) (by kernel_rfl) (Runs.load (t := 28) (a := ⟨r, 0, none⟩) (by kernel_rfl) (H3.loads (by kernel_rfl))) (d := (some 10)) (by kernel_rfl) rfl ?_
 refine og 2 [(0, (ptr r)), (4, (i64 T)), (5, (i64 ((i : Nat) : Int))), (12, (Value.bool (decide (((i : Nat) : Int) < ((S.length : Nat) : Int)))))] 7 ?_
 refine od ?_
 refine q_cond (o := .tmp 12) (b := (decide (((i : Nat) : Int) < ((S.length : Nat) : Int)))) (by kernel_rfl) rfl (fun h4 => ?_) (fun h4 => ?_)
 ·rw [h4]
  have p5 : ((i : Nat) : Int) < ((S.length : Nat) : Int) := of_decide_eq_true h4
  obtain ⟨a, ha⟩ : ∃ y, S[i]? = some y := ⟨_, List.getElem?_eq_getElem (by omega)⟩
  have hao := hS.ok a (List.mem_of_getElem? ha)
  have ha0 := hao.lo
  have ha1 := hao.hi
  have hst := sumR_take ha
  have hsr := sumR_rest hS ha
  obtain ⟨rb6, ro7, hA8⟩ := Rd.addr (Rd.keep0 (by decide) hR K2) (by omega)
  refine q_skip (by kernel_rfl) ?_
  refine qs ?_
  refine q_block (id := 1) (by kernel_rfl) ?_
  refine qs ?_
  refine qs ?_
  refine qg ?_
  refine og 3 [(0, (ptr r)), (4, (i64 T)), (5, (i64 ((i : Nat) : Int))), (12, (Value.bool true)), (17, (ptr r))] 3 ?_
  refine Ops.go (v := (Value.slice A S.length c)) (by kernel_rfl) (Runs.load (t := 28) (a := ⟨r, 0, none⟩) (by kernel_rfl) (H3.loads (by kernel_rfl))) (d := (some 18)) (by kernel_rfl) rfl ?_
  refine og 1 [(0, (ptr r)), (4, (i64 T)), (5, (i64 ((i : Nat) : Int))), (12, (Value.bool true)), (18, (Value.slice A S.length c)), (19, (i64 ((i : Nat) : Int)))] 5 ?_
  refine Ops.go (by kernel_rfl) (Runs.ixSliceE (k := IntKind.i64) (t := 28) (len := S.length) (cap := c) (s := 2) (off' := ro7 + i * 2) (i := ((i : Nat) : Int)) hA8 (by kernel_rfl) (by kernel_rfl) (by omega) (by omega) (by omega)) (d := (some 20)) (by kernel_rfl) rfl ?_
  refine og 1 [(0, (ptr r)), (4, (i64 T)), (5, (i64 ((i : Nat) : Int))), (12, (Value.bool true)), (21, (Value.pointer (some ⟨rb6, ro7 + i * 2 + 1, none⟩)))] 7 ?_
  refine Ops.go (v := (i64 a.amount)) (by kernel_rfl) (Runs.load (t := 2) (a := ⟨rb6, ro7 + i * 2 + 1, none⟩) (by kernel_rfl) (RdT.ldf (f := RowM.cells) (x := a) (o := 1) RowM.two (Rd.keep0 (by decide) hR K2) (by kernel_rfl) hA8 ha rfl)) (d := (some 22)) (by kernel_rfl) rfl ?_
  refine og 2 [(0, (ptr r)), (4, (i64 T)), (5, (i64 ((i : Nat) : Int))), (12, (Value.bool true)), (22, (i64 a.amount)), (24, (i64 (IntKind.i64.wrap (9223372036854775807 - T))))] 10 ?_
  have e9 : IntKind.i64.wrap (9223372036854775807 - T) = 9223372036854775807 - T := wrap_i64 (by omega) (by omega)
  rw [e9]
  refine og 1 [(0, (ptr r)), (4, (i64 T)), (5, (i64 ((i : Nat) : Int))), (12, (Value.bool true)), (25, (Value.bool (decide (a.amount > 9223372036854775807 - T))))] 11 ?_
  refine od ?_
  refine q_cond (o := .tmp 25) (b := (decide (a.amount > 9223372036854775807 - T))) (by kernel_rfl) rfl (fun h10 => ?_) (fun h10 => ?_)
  ·rw [h10]
   have p11 : a.amount > 9223372036854775807 - T := of_decide_eq_true h10
   refine qs ?_
   refine qg ?_
   refine og 2 [(0, (ptr r)), (2, (i64 0)), (3, (i64 43)), (4, (i64 T)), (5, (i64 ((i : Nat) : Int))), (12, (Value.bool true)), (25, (Value.bool true))] 2 ?_
   refine od ?_
   refine q_ret (by kernel_rfl) ?_
   refine ⟨(Value.tuple #[(i64 0), (i64 43)]), retv_tmp2 rfl rfl rfl, ?_⟩
   have e : sumE S = (0, 43) := if_pos (by omega)
   exact ⟨by rw [e], K2⟩
  ·rw [h10]
   have p12 : ¬ (a.amount > 9223372036854775807 - T) := of_decide_eq_false h10
   refine q_skip (by kernel_rfl) ?_
   refine qg ?_
   refine og 4 [(0, (ptr r)), (4, (i64 T)), (5, (i64 ((i : Nat) : Int))), (12, (Value.bool true)), (25, (Value.bool false)), (26, (i64 T)), (29, (ptr r))] 4 ?_
   refine Ops.go (v := (Value.slice A S.length c)) (by kernel_rfl) (Runs.load (t := 28) (a := ⟨r, 0, none⟩) (by kernel_rfl) (H3.loads (by kernel_rfl))) (d := (some 30)) (by kernel_rfl) rfl ?_
   refine og 1 [(0, (ptr r)), (4, (i64 T)), (5, (i64 ((i : Nat) : Int))), (12, (Value.bool true)), (25, (Value.bool false)), (26, (i64 T)), (30, (Value.slice A S.length c)), (31, (i64 ((i : Nat) : Int)))] 6 ?_
   refine Ops.go (by kernel_rfl) (Runs.ixSliceE (k := IntKind.i64) (t := 28) (len := S.length) (cap := c) (s := 2) (off' := ro7 + i * 2) (i := ((i : Nat) : Int)) hA8 (by kernel_rfl) (by kernel_rfl) (by omega) (by omega) (by omega)) (d := (some 32)) (by kernel_rfl) rfl ?_
   refine og 1 [(0, (ptr r)), (4, (i64 T)), (5, (i64 ((i : Nat) : Int))), (12, (Value.bool true)), (25, (Value.bool false)), (26, (i64 T)), (33, (Value.pointer (some ⟨rb6, ro7 + i * 2 + 1, none⟩)))] 8 ?_
   refine Ops.go (v := (i64 a.amount)) (by kernel_rfl) (Runs.load (t := 2) (a := ⟨rb6, ro7 + i * 2 + 1, none⟩) (by kernel_rfl) (RdT.ldf (f := RowM.cells) (x := a) (o := 1) RowM.two (Rd.keep0 (by decide) hR K2) (by kernel_rfl) hA8 ha rfl)) (d := (some 34)) (by kernel_rfl) rfl ?_
   refine og 1 [(0, (ptr r)), (4, (i64 T)), (5, (i64 ((i : Nat) : Int))), (12, (Value.bool true)), (25, (Value.bool false)), (35, (i64 (IntKind.i64.wrap (T + a.amount))))] 10 ?_
   have e13 : IntKind.i64.wrap (T + a.amount) = T + a.amount := wrap_i64 (by omega) (by omega)
   rw [e13]
   refine og 1 [(0, (ptr r)), (4, (i64 (T + a.amount))), (5, (i64 ((i : Nat) : Int))), (12, (Value.bool true)), (25, (Value.bool false))] 11 ?_
   refine od ?_
   refine qg ?_
   refine og 2 [(0, (ptr r)), (4, (i64 (T + a.amount))), (5, (i64 ((i : Nat) : Int))), (12, (Value.bool true)), (14, (i64 (IntKind.i64.wrap (((i : Nat) : Int) + 1)))), (25, (Value.bool false))] 2 ?_
   have e14 : IntKind.i64.wrap (((i : Nat) : Int) + 1) = ((i + 1 : Nat) : Int) := by rw [wrap_i64 (by omega) (by omega)]; omega
   rw [e14]
   clear e14
   refine og 1 [(0, (ptr r)), (4, (i64 (T + a.amount))), (5, (i64 ((i + 1 : Nat) : Int))), (12, (Value.bool true)), (25, (Value.bool false))] 3 ?_
   refine Ops.keep (R := [(0, (ptr r)), (4, (i64 (T + a.amount))), (5, (i64 ((i + 1 : Nat) : Int)))]) (by kernel_rfl) ?_
   refine od ?_
   exact ⟨(i + 1, T + a.amount), ⟨rfl, (by omega), (by omega), (by omega), K2, H3⟩, (show S.length - (i + 1) < S.length - i from by omega)⟩
 ·rw [h4]
  have p15 : ¬ (((i : Nat) : Int) < ((S.length : Nat) : Int)) := of_decide_eq_false h4
  refine q_exit (id := 0) (by kernel_rfl) ?_
  refine qs ?_
  refine qg ?_
  refine og 3 [(2, (i64 T)), (3, (i64 0))] 3 ?_
  refine od ?_
  refine q_ret (by kernel_rfl) ?_
  refine ⟨(Value.tuple #[(i64 T), (i64 0)]), retv_tmp2 rfl rfl rfl, ?_⟩
  have e0 : T = sumR S := by rw [hT, List.take_of_length_le (by omega)]
  have e : sumE S = (T, 0) := by unfold sumE; rw [if_neg (by omega), e0]
  exact ⟨by rw [e], K2⟩
end Go.Proofs.YtnfeemhpoaflfaaGreatDoor
namespace Go.Proofs.YtnfeemhpoaflfaaGreatDoor
open Go.Q Go.RowKit
theorem tyRK : ElemTy Tryz.prog 43 90 10 120 := elemTy (by kernel_rfl)

set_option maxHeartbeats 2000000 in
theorem Ract_new (w : World) (base r : Nat) (A : Option Addr) (c : Nat) (S : List RowM) (B : Option Addr) (d : Nat) (K : List KeptM) (o : Opm) (Hr : Has w r (rowL [.slice A S.length c, .slice B K.length d] 45)) (hO : OwnT w base 47 2 RowM.cells (.slice A S.length c) S) (hP : OwnT w base 90 10 kref (.slice B K.length d) K) (hne : ∀ i, (Value.slice A S.length c).ownBlock = some i → i ≠ r) (hne2 : ∀ i, (Value.slice B K.length d).ownBlock = some i → i ≠ r) (hnn : ∀ i, (Value.slice A S.length c).ownBlock = some i → (Value.slice B K.length d).ownBlock = some i → False) (hS : Led S) (hbw : base ≤ w.heap.size) (hk : 1 ≤ o.kind ∧ o.kind ≤ 4) (hr : -9223372036854775808 ≤ o.amount ∧ o.amount ≤ 9223372036854775807) (ha : o.kind ≠ 1 → 1 ≤ o.amount) (h4 : o.kind = 4 → o.frm ≠ o.to) (hSl : S.length ≤ 1000) (hk1 : o.kind = 1) (hg : getW S o.frm = none) : Calls Tryz.prog 42 ⟨[(ptr r), (agg [(i64 o.kind), (Value.string (str o.frm)), (Value.string (str o.to)), (i64 o.amount), (Value.string (str o.key)), (i64 o.slot), (i64 o.shard)])]⟩ w (fun e w' => ∃ A' c', e = .returned (i64 (actE S o)) ∧ Keeps (fun i => i = r ∨ (Value.slice A S.length c).ownBlock = some i) w w' ∧ Has w' r (rowL [.slice A' (actS S o).length c', .slice B K.length d] 45) ∧ OwnT w' base 47 2 RowM.cells (.slice A' (actS S o).length c') (actS S o) ∧ (∀ i, (Value.slice A' (actS S o).length c').ownBlock = some i → (Value.slice A S.length c).ownBlock = some i ∨ w.heap.size ≤ i)) := by
 have hR := OwnT.rd hO
 have hQ := OwnT.rd hP
 have Hrl := Hr.lt
 have hcap := RdT.len RowM.two (by decide) hR
 have hcapk := RdT.len kref10 (by decide) hQ
 unfold maxLen at hcap hcapk
 have hfn := findw_none hg
 have hpl := posW_le S o.frm
 have htk : (S.take (posW S o.frm)).length = posW S o.frm := by rw [List.length_take]; omega
 have hdk : (S.drop (posW S o.frm)).length = S.length - posW S o.frm := List.length_drop
 have K0 : Keeps (fun i => i = r) w w := (Keeps.refl w).mono (fun _ _ h => h.elim)
 refine q_calls Tryz.func42 (by kernel_rfl) (by kernel_rfl) ?_
 refine qs ?_
 refine qg ?_
 refine Ops.new (o := rowL [(i64 o.kind), (Value.string (str o.frm)), (Value.string (str o.to)), (i64 o.amount), (Value.string (str o.key)), (i64 o.slot), (i64 o.shard)] 24) (V := fun b => (ptr b)) (by kernel_rfl) (d := (some 3)) (by kernel_rfl) (fun b => rfl) (fun b1 w2 hb3 H4 K5 hs6 => ?_)
 have lb1r : r < b1 := by have := Hr.lt; omega
 have nb1 : w.heap.size ≤ b1 := by have := K0.size; omega
 have ob7 : ∀ i, ((Value.slice A S.length c)).ownBlock = some i → i < b1 := fun i hi => by have := (World.ownsRow.lt hO i hi).2; omega
 have ob8 : ∀ i, ((Value.slice B K.length d)).ownBlock = some i → i < b1 := fun i hi => by have := (World.ownsRow.lt hP i hi).2; omega
 replace K0 := K0.trans K5 (U := (fun i => i = r)) (fun i h1 h2 => h2) (fun i h1 h2 => by exact h2.elim)
 replace Hr := Hr.keep K5 (fun h => h)
 replace hO := own_keep0 hO K5
 replace hP := own_keep0 hP K5
 clear K5 hs6
 refine og 1 [(0, (ptr r)), (3, (ptr b1)), (4, (i64 0))] 2 ?_
 refine od ?_
 refine qs ?_
 refine qg ?_
 refine og 2 [(0, (ptr r)), (3, (ptr b1)), (4, (i64 0)), (11, (ptr r)), (12, (Value.pointer (some ⟨b1, 1, none⟩)))] 2 ?_
 refine Ops.go (v := (Value.string (str o.frm))) (by kernel_rfl) (Runs.load (t := 9) (a := ⟨b1, 1, none⟩) (by kernel_rfl) (H4.loads (by kernel_rfl))) (d := (some 13)) (by kernel_rfl) rfl ?_
 refine Ops.call (by kernel_rfl) (d := (some 14)) (by kernel_rfl) (Rfind_calls _ r A c S B d K o.frm Hr (OwnT.rd hO) (OwnT.rd hP)) ?_
 rintro _ w10 ⟨rfl, K9⟩
 refine ⟨_, _, rfl, rfl, ?_⟩
 replace K0 := K0.trans K9 (U := (fun i => i = r)) (fun i h1 h2 => h2) (fun i h1 h2 => by exact h2.elim)
 replace Hr := Hr.keep K9 (fun h => h)
 replace H4 := H4.keep K9 (fun h => h)
 replace hO := own_keep0 hO K9
 replace hP := own_keep0 hP K9
 clear K9
 refine og 5 [(0, (ptr r)), (3, (ptr b1)), (4, (i64 0)), (5, (i64 ((posW S o.frm : Nat) : Int))), (6, (Value.bool (hasW S o.frm)))] 9 ?_
 refine od ?_
 refine qs ?_
 refine qs ?_
 refine qg ?_
 refine og 1 [(0, (ptr r)), (3, (ptr b1)), (4, (i64 0)), (5, (i64 ((posW S o.frm : Nat) : Int))), (6, (Value.bool (hasW S o.frm))), (17, (ptr b1))] 1 ?_
 refine Ops.go (v := (i64 o.kind)) (by kernel_rfl) (Runs.load (t := 3) (a := ⟨b1, 0, none⟩) (by kernel_rfl) (H4.loads (by kernel_rfl))) (d := (some 18)) (by kernel_rfl) rfl ?_
 refine og 1 [(0, (ptr r)), (3, (ptr b1)), (4, (i64 0)), (5, (i64 ((posW S o.frm : Nat) : Int))), (6, (Value.bool (hasW S o.frm))), (19, (Value.bool (o.kind == 1)))] 3 ?_
 refine od ?_
 have h11 : (o.kind == 1) = true := beq_iff_eq.2 (by omega)
 rw [h11]
 refine q_then (o := .tmp 19) (by kernel_rfl) rfl ?_
 refine qs ?_
 refine qs ?_
 refine qg ?_
 refine og 1 [(0, (ptr r)), (3, (ptr b1)), (4, (i64 0)), (5, (i64 ((posW S o.frm : Nat) : Int))), (6, (Value.bool (hasW S o.frm))), (20, (Value.bool (hasW S o.frm)))] 1 ?_
 refine od ?_
 have h12 : (hasW S o.frm) = false := hfn
 rw [h12]
 refine q_else (o := .tmp 20) (by kernel_rfl) rfl ?_
 refine q_skip (by kernel_rfl) ?_
 refine qs ?_
 refine qg ?_
 refine og 1 [(0, (ptr r)), (3, (ptr b1)), (4, (i64 0)), (5, (i64 ((posW S o.frm : Nat) : Int))), (6, (Value.bool false)), (7, (Value.slice none 0 0))] 1 ?_
 refine od ?_
 refine qs ?_
 refine qg ?_
 refine og 4 [(0, (ptr r)), (3, (ptr b1)), (4, (i64 0)), (5, (i64 ((posW S o.frm : Nat) : Int))), (6, (Value.bool false)), (7, (Value.slice none 0 0)), (21, (Value.slice none 0 0)), (24, (ptr r))] 4 ?_
 refine Ops.go (v := (Value.slice A S.length c)) (by kernel_rfl) (Runs.load (t := 28) (a := ⟨r, 0, none⟩) (by kernel_rfl) (Hr.loads (by kernel_rfl))) (d := (some 25)) (by kernel_rfl) rfl ?_
 refine og 1 [(0, (ptr r)), (3, (ptr b1)), (4, (i64 0)), (5, (i64 ((posW S o.frm : Nat) : Int))), (6, (Value.bool false)), (7, (Value.slice none 0 0)), (21, (Value.slice none 0 0)), (25, (Value.slice A S.length c)), (26, (i64 ((posW S o.frm : Nat) : Int)))] 6 ?_
 obtain ⟨hr13, F14⟩ := run_hi (P := Tryz.prog) (t := 28) (e := 47) RowM.two (by decide) (by kernel_rfl) (by kernel_rfl) (OwnT.rd hO) (k := (posW S o.frm)) (by omega)
 refine Ops.go (v := (Value.slice A (posW S o.frm) c)) (by kernel_rfl) ((Runs.slice (by kernel_rfl) hr13)) (d := (some 27)) (by kernel_rfl) rfl ?_
 obtain ⟨v15, w16, hr17, hO18, hK19, hg20⟩ := OwnT.app (ty := 28) RowM.two RowM.one tyR (OwnT.nil _ w.heap.size 47 2 RowM.cells) F14 (by (try simp only [List.length_append]); (try simp only [List.length_cons]); (try simp only [List.length_nil]); omega) (by (try simp only [List.length_append]); (try simp only [List.length_cons]); (try simp only [List.length_nil]); omega) K0.size
 obtain ⟨A22, c23, rfl⟩ := RdT.form RowM.two (by decide) (OwnT.rd hO18)
 obtain ⟨l24, hl25⟩ : ∃ z, z = [] ++ S.take (posW S o.frm) := ⟨_, rfl⟩
 rw [← hl25] at hr17 hO18 hg20
 have hn26 : l24.length = 0 + (S.take (posW S o.frm)).length := by simp [hl25]
 have ob27 : ∀ i, ((Value.slice A22 l24.length c23)).ownBlock = some i → i ≠ r := fun i hi => by rcases hg20 i hi with h | h; (cases h); (have := Hr.lt; omega)
 have ob28 : ∀ i, ((Value.slice A22 l24.length c23)).ownBlock = some i → i ≠ b1 := fun i hi => by rcases hg20 i hi with h | h; (cases h); (have := H4.lt; omega)
 have oo29 : ∀ i, ((Value.slice A S.length c)).ownBlock = some i → ((Value.slice A22 l24.length c23)).ownBlock = some i → False := fun i hi hs => by rcases hg20 i hs with h | h; (cases h); (have := (World.ownsRow.lt hO i hi).2; omega)
 have oo30 : ∀ i, ((Value.slice A22 l24.length c23)).ownBlock = some i → ((Value.slice A S.length c)).ownBlock = some i → False := fun i hi hs => oo29 i hs hi
 have oo31 : ∀ i, ((Value.slice B K.length d)).ownBlock = some i → ((Value.slice A22 l24.length c23)).ownBlock = some i → False := fun i hi hs => by rcases hg20 i hs with h | h; (cases h); (have := (World.ownsRow.lt hP i hi).2; omega)
 have oo32 : ∀ i, ((Value.slice A22 l24.length c23)).ownBlock = some i → ((Value.slice B K.length d)).ownBlock = some i → False := fun i hi hs => oo31 i hs hi
 have K21 := Keeps.mono (U := none_) hK19 (fun _ _ h => by cases h)
 refine Ops.go (v := (Value.slice A22 l24.length c23)) (by kernel_rfl) (Runs.append (ts := #[28, 28]) (ty := 28) (vs := [(Value.slice none 0 0), (Value.slice A (posW S o.frm) c)]) (by kernel_rfl) hr17) (d := (some 28)) (by kernel_rfl) rfl ?_
 replace K0 := K0.trans K21 (U := (fun i => i = r)) (fun i h1 h2 => h2) (fun i h1 h2 => by exact h2.elim)
 replace Hr := Hr.keep K21 (fun h => h)
 replace H4 := H4.keep K21 (fun h => h)
 replace hO := own_keep0 hO K21
 replace hP := own_keep0 hP K21
 replace F14 := (Rd.keep0 (by omega) F14 K21)
 clear K21 hr17 hK19 hg20
 refine og 1 [(0, (ptr r)), (3, (ptr b1)), (4, (i64 0)), (5, (i64 ((posW S o.frm : Nat) : Int))), (6, (Value.bool false)), (7, (Value.slice A22 l24.length c23))] 9 ?_
 refine od ?_
 refine qs ?_
 refine qg ?_
 refine og 2 [(0, (ptr r)), (3, (ptr b1)), (4, (i64 0)), (5, (i64 ((posW S o.frm : Nat) : Int))), (6, (Value.bool false)), (7, (Value.slice A22 l24.length c23)), (29, (Value.slice A22 l24.length c23)), (30, (Value.pointer (some ⟨b1, 1, none⟩)))] 2 ?_
 refine Ops.go (v := (Value.string (str o.frm))) (by kernel_rfl) (Runs.load (t := 9) (a := ⟨b1, 1, none⟩) (by kernel_rfl) (H4.loads (by kernel_rfl))) (d := (some 31)) (by kernel_rfl) rfl ?_
 refine og 1 [(0, (ptr r)), (3, (ptr b1)), (4, (i64 0)), (5, (i64 ((posW S o.frm : Nat) : Int))), (6, (Value.bool false)), (7, (Value.slice A22 l24.length c23)), (29, (Value.slice A22 l24.length c23)), (32, (agg [(Value.string (str o.frm)), (i64 0)]))] 4 ?_
 refine Ops.new (o := rowL [(Value.string (str o.frm)), (i64 0)] 47) (V := fun b => (Value.slice (some ⟨b, 0, none⟩) 1 1)) (by kernel_rfl) (d := (some 33)) (by kernel_rfl) (fun b => rfl) (fun b33 w34 hb35 H36 K37 hs38 => ?_)
 have lb33r : r < b33 := by have := Hr.lt; omega
 have lb33b1 : b1 < b33 := by have := H4.lt; omega
 have nb33 : w.heap.size ≤ b33 := by have := K0.size; omega
 have ob39 : ∀ i, ((Value.slice A S.length c)).ownBlock = some i → i < b33 := fun i hi => by have := (World.ownsRow.lt hO i hi).2; omega
 have ob40 : ∀ i, ((Value.slice B K.length d)).ownBlock = some i → i < b33 := fun i hi => by have := (World.ownsRow.lt hP i hi).2; omega
 have ob41 : ∀ i, ((Value.slice A22 l24.length c23)).ownBlock = some i → i < b33 := fun i hi => by have := (World.ownsRow.lt hO18 i hi).2; omega
 replace K0 := K0.trans K37 (U := (fun i => i = r)) (fun i h1 h2 => h2) (fun i h1 h2 => by exact h2.elim)
 replace Hr := Hr.keep K37 (fun h => h)
 replace H4 := H4.keep K37 (fun h => h)
 replace hO := own_keep0 hO K37
 replace hP := own_keep0 hP K37
 replace F14 := (Rd.keep0 (by omega) F14 K37)
 replace hO18 := own_keep0 hO18 K37
 clear K37 hs38
 obtain ⟨v42, w43, hr44, hO45, hK46, hg47⟩ := OwnT.app (ty := 28) RowM.two RowM.one tyR hO18 (show RdT _ 2 RowM.cells _ [(⟨o.frm, 0⟩ : RowM)] from Rd.lit H36 (n := 1) rfl (by decide)) (by (try simp only [List.length_append]); (try simp only [List.length_cons]); (try simp only [List.length_nil]); omega) (by (try simp only [List.length_append]); (try simp only [List.length_cons]); (try simp only [List.length_nil]); omega) K0.size
 obtain ⟨A49, c50, rfl⟩ := RdT.form RowM.two (by decide) (OwnT.rd hO45)
 obtain ⟨l51, hl52⟩ : ∃ z, z = l24 ++ [(⟨o.frm, 0⟩ : RowM)] := ⟨_, rfl⟩
 rw [← hl52] at hr44 hO45 hg47
 have hn53 : l51.length = l24.length + 1 := by simp [hl52]
 have ob54 : ∀ i, ((Value.slice A49 l51.length c50)).ownBlock = some i → i ≠ r := fun i hi => by rcases hg47 i hi with h | h; (have := ob27 i h; omega); (have := Hr.lt; omega)
 have ob55 : ∀ i, ((Value.slice A49 l51.length c50)).ownBlock = some i → i ≠ b1 := fun i hi => by rcases hg47 i hi with h | h; (have := ob28 i h; omega); (have := H4.lt; omega)
 have ob56 : ∀ i, ((Value.slice A49 l51.length c50)).ownBlock = some i → i ≠ b33 := fun i hi => by rcases hg47 i hi with h | h; (have := ob41 i h; omega); (have := H36.lt; omega)
 have oo57 : ∀ i, ((Value.slice A S.length c)).ownBlock = some i → ((Value.slice A49 l51.length c50)).ownBlock = some i → False := fun i hi hs => by rcases hg47 i hs with h | h; (exact oo29 i hi h); (have := (World.ownsRow.lt hO i hi).2; omega)
 have oo58 : ∀ i, ((Value.slice A49 l51.length c50)).ownBlock = some i → ((Value.slice A S.length c)).ownBlock = some i → False := fun i hi hs => oo57 i hs hi
 have oo59 : ∀ i, ((Value.slice B K.length d)).ownBlock = some i → ((Value.slice A49 l51.length c50)).ownBlock = some i → False := fun i hi hs => by rcases hg47 i hs with h | h; (exact oo31 i hi h); (have := (World.ownsRow.lt hP i hi).2; omega)
 have oo60 : ∀ i, ((Value.slice A49 l51.length c50)).ownBlock = some i → ((Value.slice B K.length d)).ownBlock = some i → False := fun i hi hs => oo59 i hs hi
 have K48 := hK46
 refine Ops.go (v := (Value.slice A49 l51.length c50)) (by kernel_rfl) (Runs.append (ts := #[28, 28]) (ty := 28) (vs := [(Value.slice A22 l24.length c23), (Value.slice (some ⟨b33, 0, none⟩) 1 1)]) (by kernel_rfl) hr44) (d := (some 34)) (by kernel_rfl) rfl ?_
 replace K0 := K0.trans K48 (U := (fun i => i = r)) (fun i h1 h2 => h2) (fun i h1 h2 => by have h2 : ((Value.slice A22 l24.length c23)).ownBlock = some i := h2; exfalso; have := (World.ownsRow.lt hO18 i h2).1; omega)
 replace Hr := Hr.keep K48 (by intro h; change ((Value.slice A22 l24.length c23)).ownBlock = some r at h; have := ob27 r h; omega)
 replace H4 := H4.keep K48 (by intro h; change ((Value.slice A22 l24.length c23)).ownBlock = some b1 at h; have := ob28 b1 h; omega)
 replace H36 := H36.keep K48 (by intro h; change ((Value.slice A22 l24.length c23)).ownBlock = some b33 at h; have := ob41 b33 h; omega)
 replace hO := own_keep hO K48 (fun i hi hs => by have hs : ((Value.slice A22 l24.length c23)).ownBlock = some i := hs; exact oo29 i hi hs)
 replace hP := own_keep hP K48 (fun i hi hs => by have hs : ((Value.slice A22 l24.length c23)).ownBlock = some i := hs; exact oo31 i hi hs)
 clear F14
 clear hO18
 clear K48 hr44 hK46 hg47
 refine og 1 [(0, (ptr r)), (3, (ptr b1)), (4, (i64 0)), (5, (i64 ((posW S o.frm : Nat) : Int))), (6, (Value.bool false)), (7, (Value.slice A49 l51.length c50))] 7 ?_
 refine od ?_
 refine qs ?_
 refine qg ?_
 refine og 4 [(0, (ptr r)), (3, (ptr b1)), (4, (i64 0)), (5, (i64 ((posW S o.frm : Nat) : Int))), (6, (Value.bool false)), (7, (Value.slice A49 l51.length c50)), (35, (Value.slice A49 l51.length c50)), (38, (ptr r))] 4 ?_
 refine Ops.go (v := (Value.slice A S.length c)) (by kernel_rfl) (Runs.load (t := 28) (a := ⟨r, 0, none⟩) (by kernel_rfl) (Hr.loads (by kernel_rfl))) (d := (some 39)) (by kernel_rfl) rfl ?_
 refine og 1 [(0, (ptr r)), (3, (ptr b1)), (4, (i64 0)), (5, (i64 ((posW S o.frm : Nat) : Int))), (6, (Value.bool false)), (7, (Value.slice A49 l51.length c50)), (35, (Value.slice A49 l51.length c50)), (39, (Value.slice A S.length c)), (40, (i64 ((posW S o.frm : Nat) : Int)))] 6 ?_
 obtain ⟨A63, hr61, F62⟩ := run_lo (P := Tryz.prog) (t := 28) (e := 47) RowM.two (by decide) (by kernel_rfl) (by kernel_rfl) (OwnT.rd hO) (k := (posW S o.frm)) (by omega)
 refine Ops.go (v := (Value.slice A63 (S.length - (posW S o.frm)) (c - (posW S o.frm)))) (by kernel_rfl) ((Runs.slice (by kernel_rfl) hr61)) (d := (some 41)) (by kernel_rfl) rfl ?_
 obtain ⟨v64, w65, hr66, hO67, hK68, hg69⟩ := OwnT.app (ty := 28) RowM.two RowM.one tyR hO45 F62 (by (try simp only [List.length_append]); (try simp only [List.length_cons]); (try simp only [List.length_nil]); omega) (by (try simp only [List.length_append]); (try simp only [List.length_cons]); (try simp only [List.length_nil]); omega) K0.size
 obtain ⟨A71, c72, rfl⟩ := RdT.form RowM.two (by decide) (OwnT.rd hO67)
 obtain ⟨l73, hl74⟩ : ∃ z, z = l51 ++ S.drop (posW S o.frm) := ⟨_, rfl⟩
 rw [← hl74] at hr66 hO67 hg69
 have hn75 : l73.length = l51.length + (S.drop (posW S o.frm)).length := by simp [hl74]
 have ob76 : ∀ i, ((Value.slice A71 l73.length c72)).ownBlock = some i → i ≠ r := fun i hi => by rcases hg69 i hi with h | h; (have := ob54 i h; omega); (have := Hr.lt; omega)
 have ob77 : ∀ i, ((Value.slice A71 l73.length c72)).ownBlock = some i → i ≠ b1 := fun i hi => by rcases hg69 i hi with h | h; (have := ob55 i h; omega); (have := H4.lt; omega)
 have ob78 : ∀ i, ((Value.slice A71 l73.length c72)).ownBlock = some i → i ≠ b33 := fun i hi => by rcases hg69 i hi with h | h; (have := ob56 i h; omega); (have := H36.lt; omega)
 have oo79 : ∀ i, ((Value.slice A S.length c)).ownBlock = some i → ((Value.slice A71 l73.length c72)).ownBlock = some i → False := fun i hi hs => by rcases hg69 i hs with h | h; (exact oo57 i hi h); (have := (World.ownsRow.lt hO i hi).2; omega)
 have oo80 : ∀ i, ((Value.slice A71 l73.length c72)).ownBlock = some i → ((Value.slice A S.length c)).ownBlock = some i → False := fun i hi hs => oo79 i hs hi
 have oo81 : ∀ i, ((Value.slice B K.length d)).ownBlock = some i → ((Value.slice A71 l73.length c72)).ownBlock = some i → False := fun i hi hs => by rcases hg69 i hs with h | h; (exact oo59 i hi h); (have := (World.ownsRow.lt hP i hi).2; omega)
 have oo82 : ∀ i, ((Value.slice A71 l73.length c72)).ownBlock = some i → ((Value.slice B K.length d)).ownBlock = some i → False := fun i hi hs => oo81 i hs hi
 have K70 := hK68
 refine Ops.go (v := (Value.slice A71 l73.length c72)) (by kernel_rfl) (Runs.append (ts := #[28, 28]) (ty := 28) (vs := [(Value.slice A49 l51.length c50), (Value.slice A63 (S.length - (posW S o.frm)) (c - (posW S o.frm)))]) (by kernel_rfl) hr66) (d := (some 42)) (by kernel_rfl) rfl ?_
 replace K0 := K0.trans K70 (U := (fun i => i = r)) (fun i h1 h2 => h2) (fun i h1 h2 => by have h2 : ((Value.slice A49 l51.length c50)).ownBlock = some i := h2; exfalso; have := (World.ownsRow.lt hO45 i h2).1; omega)
 replace Hr := Hr.keep K70 (by intro h; change ((Value.slice A49 l51.length c50)).ownBlock = some r at h; have := ob54 r h; omega)
 replace H4 := H4.keep K70 (by intro h; change ((Value.slice A49 l51.length c50)).ownBlock = some b1 at h; have := ob55 b1 h; omega)
 replace H36 := H36.keep K70 (by intro h; change ((Value.slice A49 l51.length c50)).ownBlock = some b33 at h; have := ob56 b33 h; omega)
 replace hO := own_keep hO K70 (fun i hi hs => by have hs : ((Value.slice A49 l51.length c50)).ownBlock = some i := hs; exact oo57 i hi hs)
 replace hP := own_keep hP K70 (fun i hi hs => by have hs : ((Value.slice A49 l51.length c50)).ownBlock = some i := hs; exact oo59 i hi hs)
 clear hO45
 clear F62
 clear K70 hr66 hK68 hg69
 refine og 1 [(0, (ptr r)), (3, (ptr b1)), (4, (i64 0)), (5, (i64 ((posW S o.frm : Nat) : Int))), (6, (Value.bool false)), (7, (Value.slice A71 l73.length c72))] 9 ?_
 refine od ?_
 refine qs ?_
 refine qg ?_
 refine og 4 [(0, (ptr r)), (3, (ptr b1)), (4, (i64 0)), (5, (i64 ((posW S o.frm : Nat) : Int))), (6, (Value.bool false)), (44, (Value.slice A71 l73.length c72)), (46, (ptr r))] 4 ?_
 refine Ops.put (t := 28) (b := r) (off := 0) (v := (Value.slice A71 l73.length c72)) (ys := [(Value.slice A71 l73.length c72), (Value.slice B K.length d)]) (by kernel_rfl) (by kernel_rfl) Hr (by kernel_rfl) (d := none) (by kernel_rfl) rfl (fun w83 H84 K85 => ?_)
 clear Hr
 replace K0 := K0.trans K85 (U := (fun i => i = r)) (fun i h1 h2 => h2) (fun i h1 h2 => by have h2 : i = r := h2; show i = r; omega)
 replace H4 := H4.keep K85 (by intro h; change b1 = r at h; omega)
 replace H36 := H36.keep K85 (by intro h; change b33 = r at h; omega)
 replace hO := own_keep hO K85 (fun i hi hs => by have hs : i = r := hs; have := hne i hi; omega)
 replace hP := own_keep hP K85 (fun i hi hs => by have hs : i = r := hs; have := hne2 i hi; omega)
 replace hO67 := own_keep hO67 K85 (fun i hi hs => by have hs : i = r := hs; have := ob76 i hi; omega)
 clear K85
 refine od ?_
 refine qs ?_
 refine qg ?_
 refine og 1 [(0, (ptr r)), (3, (ptr b1)), (4, (i64 0)), (5, (i64 ((posW S o.frm : Nat) : Int))), (6, (Value.bool false))] 1 ?_
 refine od ?_
 refine q_ret (by kernel_rfl) ?_
 refine ⟨(i64 0), retv_tmp rfl rfl, ?_⟩
 have e1 : actE S o = 0 := by unfold actE; rw [if_pos hk1, hg]; rfl
 have e2 : l73 = actS S o := by unfold actS; rw [if_pos hk1, hg, if_neg (by decide), ← insw_split, hl74, hl52, hl25]; simp only [List.nil_append, List.append_assoc]
 rw [e2] at H84 hO67
 rw [e1]
 exact ⟨_, _, rfl, K0.mono (fun i _ h => .inl h), H84, own_base hO67 hbw, fun i hi => .inr (World.ownsRow.lt hO67 i hi).1⟩

set_option maxHeartbeats 2000000 in
theorem Ract_twice (w : World) (base r : Nat) (A : Option Addr) (c : Nat) (S : List RowM) (B : Option Addr) (d : Nat) (K : List KeptM) (o : Opm) (Hr : Has w r (rowL [.slice A S.length c, .slice B K.length d] 45)) (hO : OwnT w base 47 2 RowM.cells (.slice A S.length c) S) (hP : OwnT w base 90 10 kref (.slice B K.length d) K) (hne : ∀ i, (Value.slice A S.length c).ownBlock = some i → i ≠ r) (hne2 : ∀ i, (Value.slice B K.length d).ownBlock = some i → i ≠ r) (hnn : ∀ i, (Value.slice A S.length c).ownBlock = some i → (Value.slice B K.length d).ownBlock = some i → False) (hS : Led S) (hbw : base ≤ w.heap.size) (hk : 1 ≤ o.kind ∧ o.kind ≤ 4) (hr : -9223372036854775808 ≤ o.amount ∧ o.amount ≤ 9223372036854775807) (ha : o.kind ≠ 1 → 1 ≤ o.amount) (h4 : o.kind = 4 → o.frm ≠ o.to) (hSl : S.length ≤ 1000) (hk1 : o.kind = 1) (a : RowM) (hg : getW S o.frm = some a) : Calls Tryz.prog 42 ⟨[(ptr r), (agg [(i64 o.kind), (Value.string (str o.frm)), (Value.string (str o.to)), (i64 o.amount), (Value.string (str o.key)), (i64 o.slot), (i64 o.shard)])]⟩ w (fun e w' => ∃ A' c', e = .returned (i64 (actE S o)) ∧ Keeps (fun i => i = r ∨ (Value.slice A S.length c).ownBlock = some i) w w' ∧ Has w' r (rowL [.slice A' (actS S o).length c', .slice B K.length d] 45) ∧ OwnT w' base 47 2 RowM.cells (.slice A' (actS S o).length c') (actS S o) ∧ (∀ i, (Value.slice A' (actS S o).length c').ownBlock = some i → (Value.slice A S.length c).ownBlock = some i ∨ w.heap.size ≤ i)) := by
 have hR := OwnT.rd hO
 have hQ := OwnT.rd hP
 have Hrl := Hr.lt
 have hcap := RdT.len RowM.two (by decide) hR
 have hcapk := RdT.len kref10 (by decide) hQ
 unfold maxLen at hcap hcapk
 have hfs := findw_some hS hg
 have hf2 := hfs.2
 have hfl := (List.getElem?_eq_some_iff.1 hf2).1
 have hao := hS.ok a (getW_some hg).1
 have hal := hao.lo
 have hah := hao.hi
 have hnm := (getW_some hg).2
 have K0 : Keeps none_ w w := Keeps.refl w
 refine q_calls Tryz.func42 (by kernel_rfl) (by kernel_rfl) ?_
 refine qs ?_
 refine qg ?_
 refine Ops.new (o := rowL [(i64 o.kind), (Value.string (str o.frm)), (Value.string (str o.to)), (i64 o.amount), (Value.string (str o.key)), (i64 o.slot), (i64 o.shard)] 24) (V := fun b => (ptr b)) (by kernel_rfl) (d := (some 3)) (by kernel_rfl) (fun b => rfl) (fun b1 w2 hb3 H4 K5 hs6 => ?_)
 have lb1r : r < b1 := by have := Hr.lt; omega
 have nb1 : w.heap.size ≤ b1 := by have := K0.size; omega
 have ob7 : ∀ i, ((Value.slice A S.length c)).ownBlock = some i → i < b1 := fun i hi => by have := (World.ownsRow.lt hO i hi).2; omega
 have ob8 : ∀ i, ((Value.slice B K.length d)).ownBlock = some i → i < b1 := fun i hi => by have := (World.ownsRow.lt hP i hi).2; omega
 replace K0 := K0.t0 K5
 replace Hr := Hr.keep K5 (fun h => h)
 replace hO := own_keep0 hO K5
 replace hP := own_keep0 hP K5
 clear K5 hs6
 refine og 1 [(0, (ptr r)), (3, (ptr b1)), (4, (i64 0))] 2 ?_
 refine od ?_
 refine qs ?_
 refine qg ?_
 refine og 2 [(0, (ptr r)), (3, (ptr b1)), (4, (i64 0)), (11, (ptr r)), (12, (Value.pointer (some ⟨b1, 1, none⟩)))] 2 ?_
 refine Ops.go (v := (Value.string (str o.frm))) (by kernel_rfl) (Runs.load (t := 9) (a := ⟨b1, 1, none⟩) (by kernel_rfl) (H4.loads (by kernel_rfl))) (d := (some 13)) (by kernel_rfl) rfl ?_
 refine Ops.call (by kernel_rfl) (d := (some 14)) (by kernel_rfl) (Rfind_calls _ r A c S B d K o.frm Hr (OwnT.rd hO) (OwnT.rd hP)) ?_
 rintro _ w10 ⟨rfl, K9⟩
 refine ⟨_, _, rfl, rfl, ?_⟩
 replace K0 := K0.t0 K9
 replace Hr := Hr.keep K9 (fun h => h)
 replace H4 := H4.keep K9 (fun h => h)
 replace hO := own_keep0 hO K9
 replace hP := own_keep0 hP K9
 clear K9
 refine og 5 [(0, (ptr r)), (3, (ptr b1)), (4, (i64 0)), (5, (i64 ((posW S o.frm : Nat) : Int))), (6, (Value.bool (hasW S o.frm)))] 9 ?_
 refine od ?_
 refine qs ?_
 refine qs ?_
 refine qg ?_
 refine og 1 [(0, (ptr r)), (3, (ptr b1)), (4, (i64 0)), (5, (i64 ((posW S o.frm : Nat) : Int))), (6, (Value.bool (hasW S o.frm))), (17, (ptr b1))] 1 ?_
 refine Ops.go (v := (i64 o.kind)) (by kernel_rfl) (Runs.load (t := 3) (a := ⟨b1, 0, none⟩) (by kernel_rfl) (H4.loads (by kernel_rfl))) (d := (some 18)) (by kernel_rfl) rfl ?_
 refine og 1 [(0, (ptr r)), (3, (ptr b1)), (4, (i64 0)), (5, (i64 ((posW S o.frm : Nat) : Int))), (6, (Value.bool (hasW S o.frm))), (19, (Value.bool (o.kind == 1)))] 3 ?_
 refine od ?_
 have h11 : (o.kind == 1) = true := beq_iff_eq.2 (by omega)
 rw [h11]
 refine q_then (o := .tmp 19) (by kernel_rfl) rfl ?_
 refine qs ?_
 refine qs ?_
 refine qg ?_
 refine og 1 [(0, (ptr r)), (3, (ptr b1)), (4, (i64 0)), (5, (i64 ((posW S o.frm : Nat) : Int))), (6, (Value.bool (hasW S o.frm))), (20, (Value.bool (hasW S o.frm)))] 1 ?_
 refine od ?_
 have h12 : (hasW S o.frm) = true := hfs.1
 rw [h12]
 refine q_then (o := .tmp 20) (by kernel_rfl) rfl ?_
 refine qs ?_
 refine qg ?_
 refine og 1 [(0, (ptr r)), (3, (ptr b1)), (4, (i64 41)), (5, (i64 ((posW S o.frm : Nat) : Int))), (6, (Value.bool true))] 1 ?_
 refine od ?_
 refine q_ret (by kernel_rfl) ?_
 refine ⟨(i64 41), retv_tmp rfl rfl, ?_⟩
 have e1 : actE S o = 41 := by unfold actE; rw [if_pos hk1, hg]; rfl
 have e2 : actS S o = S := act_refused (by rw [e1]; decide)
 rw [e1, e2]
 exact ⟨A, c, rfl, K0.mono fun _ _ h => h.elim, Hr, hO, fun i h => .inl h⟩

set_option maxHeartbeats 2000000 in
theorem Ract_no (w : World) (base r : Nat) (A : Option Addr) (c : Nat) (S : List RowM) (B : Option Addr) (d : Nat) (K : List KeptM) (o : Opm) (Hr : Has w r (rowL [.slice A S.length c, .slice B K.length d] 45)) (hO : OwnT w base 47 2 RowM.cells (.slice A S.length c) S) (hP : OwnT w base 90 10 kref (.slice B K.length d) K) (hne : ∀ i, (Value.slice A S.length c).ownBlock = some i → i ≠ r) (hne2 : ∀ i, (Value.slice B K.length d).ownBlock = some i → i ≠ r) (hnn : ∀ i, (Value.slice A S.length c).ownBlock = some i → (Value.slice B K.length d).ownBlock = some i → False) (hS : Led S) (hbw : base ≤ w.heap.size) (hk : 1 ≤ o.kind ∧ o.kind ≤ 4) (hr : -9223372036854775808 ≤ o.amount ∧ o.amount ≤ 9223372036854775807) (ha : o.kind ≠ 1 → 1 ≤ o.amount) (h4 : o.kind = 4 → o.frm ≠ o.to) (hSl : S.length ≤ 1000) (hk1 : o.kind ≠ 1) (hg : getW S o.frm = none) : Calls Tryz.prog 42 ⟨[(ptr r), (agg [(i64 o.kind), (Value.string (str o.frm)), (Value.string (str o.to)), (i64 o.amount), (Value.string (str o.key)), (i64 o.slot), (i64 o.shard)])]⟩ w (fun e w' => ∃ A' c', e = .returned (i64 (actE S o)) ∧ Keeps (fun i => i = r ∨ (Value.slice A S.length c).ownBlock = some i) w w' ∧ Has w' r (rowL [.slice A' (actS S o).length c', .slice B K.length d] 45) ∧ OwnT w' base 47 2 RowM.cells (.slice A' (actS S o).length c') (actS S o) ∧ (∀ i, (Value.slice A' (actS S o).length c').ownBlock = some i → (Value.slice A S.length c).ownBlock = some i ∨ w.heap.size ≤ i)) := by
 have hR := OwnT.rd hO
 have hQ := OwnT.rd hP
 have Hrl := Hr.lt
 have hcap := RdT.len RowM.two (by decide) hR
 have hcapk := RdT.len kref10 (by decide) hQ
 unfold maxLen at hcap hcapk
 have hfn := findw_none hg
 have K0 : Keeps none_ w w := Keeps.refl w
 refine q_calls Tryz.func42 (by kernel_rfl) (by kernel_rfl) ?_
 refine qs ?_
 refine qg ?_
 refine Ops.new (o := rowL [(i64 o.kind), (Value.string (str o.frm)), (Value.string (str o.to)), (i64 o.amount), (Value.string (str o.key)), (i64 o.slot), (i64 o.shard)] 24) (V := fun b => (ptr b)) (by kernel_rfl) (d := (some 3)) (by kernel_rfl) (fun b => rfl) (fun b1 w2 hb3 H4 K5 hs6 => ?_)
 have lb1r : r < b1 := by have := Hr.lt; omega
 have nb1 : w.heap.size ≤ b1 := by have := K0.size; omega
 have ob7 : ∀ i, ((Value.slice A S.length c)).ownBlock = some i → i < b1 := fun i hi => by have := (World.ownsRow.lt hO i hi).2; omega
 have ob8 : ∀ i, ((Value.slice B K.length d)).ownBlock = some i → i < b1 := fun i hi => by have := (World.ownsRow.lt hP i hi).2; omega
 replace K0 := K0.t0 K5
 replace Hr := Hr.keep K5 (fun h => h)
 replace hO := own_keep0 hO K5
 replace hP := own_keep0 hP K5
 clear K5 hs6
 refine og 1 [(0, (ptr r)), (3, (ptr b1)), (4, (i64 0))] 2 ?_
 refine od ?_
 refine qs ?_
 refine qg ?_
 refine og 2 [(0, (ptr r)), (3, (ptr b1)), (4, (i64 0)), (11, (ptr r)), (12, (Value.pointer (some ⟨b1, 1, none⟩)))] 2 ?_
 refine Ops.go (v := (Value.string (str o.frm))) (by kernel_rfl) (Runs.load (t := 9) (a := ⟨b1, 1, none⟩) (by kernel_rfl) (H4.loads (by kernel_rfl))) (d := (some 13)) (by kernel_rfl) rfl ?_
 refine Ops.call (by kernel_rfl) (d := (some 14)) (by kernel_rfl) (Rfind_calls _ r A c S B d K o.frm Hr (OwnT.rd hO) (OwnT.rd hP)) ?_
 rintro _ w10 ⟨rfl, K9⟩
 refine ⟨_, _, rfl, rfl, ?_⟩
 replace K0 := K0.t0 K9
 replace Hr := Hr.keep K9 (fun h => h)
 replace H4 := H4.keep K9 (fun h => h)
 replace hO := own_keep0 hO K9
 replace hP := own_keep0 hP K9
 clear K9
 refine og 5 [(0, (ptr r)), (3, (ptr b1)), (4, (i64 0)), (5, (i64 ((posW S o.frm : Nat) : Int))), (6, (Value.bool (hasW S o.frm)))] 9 ?_
 refine od ?_
 refine qs ?_
 refine qs ?_
 refine qg ?_
 refine og 1 [(0, (ptr r)), (3, (ptr b1)), (4, (i64 0)), (5, (i64 ((posW S o.frm : Nat) : Int))), (6, (Value.bool (hasW S o.frm))), (17, (ptr b1))] 1 ?_
 refine Ops.go (v := (i64 o.kind)) (by kernel_rfl) (Runs.load (t := 3) (a := ⟨b1, 0, none⟩) (by kernel_rfl) (H4.loads (by kernel_rfl))) (d := (some 18)) (by kernel_rfl) rfl ?_
 refine og 1 [(0, (ptr r)), (3, (ptr b1)), (4, (i64 0)), (5, (i64 ((posW S o.frm : Nat) : Int))), (6, (Value.bool (hasW S o.frm))), (19, (Value.bool (o.kind == 1)))] 3 ?_
 refine od ?_
 have h11 : (o.kind == 1) = false := beq_eq_false_iff_ne.2 hk1
 rw [h11]
 refine q_else (o := .tmp 19) (by kernel_rfl) rfl ?_
 refine q_skip (by kernel_rfl) ?_
 refine qs ?_
 refine qs ?_
 refine qg ?_
 refine og 2 [(0, (ptr r)), (3, (ptr b1)), (4, (i64 0)), (5, (i64 ((posW S o.frm : Nat) : Int))), (48, (Value.bool (!(hasW S o.frm))))] 2 ?_
 refine od ?_
 have h12 : (!(hasW S o.frm)) = true := by rw [show (hasW S o.frm) = false from hfn]; rfl
 rw [h12]
 refine q_then (o := .tmp 48) (by kernel_rfl) rfl ?_
 refine qs ?_
 refine qg ?_
 refine og 1 [(0, (ptr r)), (3, (ptr b1)), (4, (i64 40)), (5, (i64 ((posW S o.frm : Nat) : Int)))] 1 ?_
 refine od ?_
 refine q_ret (by kernel_rfl) ?_
 refine ⟨(i64 40), retv_tmp rfl rfl, ?_⟩
 have e1 : actE S o = 40 := by unfold actE; rw [if_neg hk1, hg]
 have e2 : actS S o = S := act_refused (by rw [e1]; decide)
 rw [e1, e2]
 exact ⟨A, c, rfl, K0.mono fun _ _ h => h.elim, Hr, hO, fun i h => .inl h⟩

set_option maxHeartbeats 2000000 in
theorem Ract_two (w : World) (base r : Nat) (A : Option Addr) (c : Nat) (S : List RowM) (B : Option Addr) (d : Nat) (K : List KeptM) (o : Opm) (Hr : Has w r (rowL [.slice A S.length c, .slice B K.length d] 45)) (hO : OwnT w base 47 2 RowM.cells (.slice A S.length c) S) (hP : OwnT w base 90 10 kref (.slice B K.length d) K) (hne : ∀ i, (Value.slice A S.length c).ownBlock = some i → i ≠ r) (hne2 : ∀ i, (Value.slice B K.length d).ownBlock = some i → i ≠ r) (hnn : ∀ i, (Value.slice A S.length c).ownBlock = some i → (Value.slice B K.length d).ownBlock = some i → False) (hS : Led S) (hbw : base ≤ w.heap.size) (hk : 1 ≤ o.kind ∧ o.kind ≤ 4) (hr : -9223372036854775808 ≤ o.amount ∧ o.amount ≤ 9223372036854775807) (ha : o.kind ≠ 1 → 1 ≤ o.amount) (h4 : o.kind = 4 → o.frm ≠ o.to) (hSl : S.length ≤ 1000) (hk2 : o.kind = 2) (a : RowM) (hg : getW S o.frm = some a) : Calls Tryz.prog 42 ⟨[(ptr r), (agg [(i64 o.kind), (Value.string (str o.frm)), (Value.string (str o.to)), (i64 o.amount), (Value.string (str o.key)), (i64 o.slot), (i64 o.shard)])]⟩ w (fun e w' => ∃ A' c', e = .returned (i64 (actE S o)) ∧ Keeps (fun i => i = r ∨ (Value.slice A S.length c).ownBlock = some i) w w' ∧ Has w' r (rowL [.slice A' (actS S o).length c', .slice B K.length d] 45) ∧ OwnT w' base 47 2 RowM.cells (.slice A' (actS S o).length c') (actS S o) ∧ (∀ i, (Value.slice A' (actS S o).length c').ownBlock = some i → (Value.slice A S.length c).ownBlock = some i ∨ w.heap.size ≤ i)) := by
 have hR := OwnT.rd hO
 have hQ := OwnT.rd hP
 have Hrl := Hr.lt
 have hcap := RdT.len RowM.two (by decide) hR
 have hcapk := RdT.len kref10 (by decide) hQ
 unfold maxLen at hcap hcapk
 have hfs := findw_some hS hg
 have hf2 := hfs.2
 have hfl := (List.getElem?_eq_some_iff.1 hf2).1
 have hao := hS.ok a (getW_some hg).1
 have hal := hao.lo
 have hah := hao.hi
 have hnm := (getW_some hg).2
 obtain ⟨gb, cur, hA, hgb, Hg, hcl, hca, hput⟩ := OwnT.open RowM.two (by decide) hf2 hO
 have c1 : cur[posW S o.frm * 2 + 1]? = some (i64 a.amount) := hca 1 _ rfl
 have hgr : gb ≠ r := hne gb (by rw [hA]; rfl)
 have hgk : ∀ i, (Value.slice B K.length d).ownBlock = some i → i ≠ gb := fun i hi q => by subst q; exact hnn i (by rw [hA]; rfl) hi
 have Hgl := Hg.lt
 have K0 : Keeps (fun i => i = gb) w w := (Keeps.refl w).mono (fun _ _ h => h.elim)
 refine q_calls Tryz.func42 (by kernel_rfl) (by kernel_rfl) ?_
 refine qs ?_
 refine qg ?_
 refine Ops.new (o := rowL [(i64 o.kind), (Value.string (str o.frm)), (Value.string (str o.to)), (i64 o.amount), (Value.string (str o.key)), (i64 o.slot), (i64 o.shard)] 24) (V := fun b => (ptr b)) (by kernel_rfl) (d := (some 3)) (by kernel_rfl) (fun b => rfl) (fun b1 w2 hb3 H4 K5 hs6 => ?_)
 have lb1r : r < b1 := by have := Hr.lt; omega
 have lb1gb : gb < b1 := by have := Hg.lt; omega
 have nb1 : w.heap.size ≤ b1 := by have := K0.size; omega
 have ob7 : ∀ i, ((Value.slice A S.length c)).ownBlock = some i → i < b1 := fun i hi => by have := (World.ownsRow.lt hO i hi).2; omega
 have ob8 : ∀ i, ((Value.slice B K.length d)).ownBlock = some i → i < b1 := fun i hi => by have := (World.ownsRow.lt hP i hi).2; omega
 replace K0 := K0.trans K5 (U := (fun i => i = gb)) (fun i h1 h2 => h2) (fun i h1 h2 => by exact h2.elim)
 replace Hr := Hr.keep K5 (fun h => h)
 replace Hg := Hg.keep K5 (fun h => h)
 replace hO := own_keep0 hO K5
 replace hP := own_keep0 hP K5
 clear K5 hs6
 refine og 1 [(0, (ptr r)), (3, (ptr b1)), (4, (i64 0))] 2 ?_
 refine od ?_
 refine qs ?_
 refine qg ?_
 refine og 2 [(0, (ptr r)), (3, (ptr b1)), (4, (i64 0)), (11, (ptr r)), (12, (Value.pointer (some ⟨b1, 1, none⟩)))] 2 ?_
 refine Ops.go (v := (Value.string (str o.frm))) (by kernel_rfl) (Runs.load (t := 9) (a := ⟨b1, 1, none⟩) (by kernel_rfl) (H4.loads (by kernel_rfl))) (d := (some 13)) (by kernel_rfl) rfl ?_
 refine Ops.call (by kernel_rfl) (d := (some 14)) (by kernel_rfl) (Rfind_calls _ r A c S B d K o.frm Hr (OwnT.rd hO) (OwnT.rd hP)) ?_
 rintro _ w10 ⟨rfl, K9⟩
 refine ⟨_, _, rfl, rfl, ?_⟩
 replace K0 := K0.trans K9 (U := (fun i => i = gb)) (fun i h1 h2 => h2) (fun i h1 h2 => by exact h2.elim)
 replace Hr := Hr.keep K9 (fun h => h)
 replace Hg := Hg.keep K9 (fun h => h)
 replace H4 := H4.keep K9 (fun h => h)
 replace hO := own_keep0 hO K9
 replace hP := own_keep0 hP K9
 clear K9
 refine og 5 [(0, (ptr r)), (3, (ptr b1)), (4, (i64 0)), (5, (i64 ((posW S o.frm : Nat) : Int))), (6, (Value.bool (hasW S o.frm)))] 9 ?_
 refine od ?_
 refine qs ?_
 refine qs ?_
 refine qg ?_
 refine og 1 [(0, (ptr r)), (3, (ptr b1)), (4, (i64 0)), (5, (i64 ((posW S o.frm : Nat) : Int))), (6, (Value.bool (hasW S o.frm))), (17, (ptr b1))] 1 ?_
 refine Ops.go (v := (i64 o.kind)) (by kernel_rfl) (Runs.load (t := 3) (a := ⟨b1, 0, none⟩) (by kernel_rfl) (H4.loads (by kernel_rfl))) (d := (some 18)) (by kernel_rfl) rfl ?_
 refine og 1 [(0, (ptr r)), (3, (ptr b1)), (4, (i64 0)), (5, (i64 ((posW S o.frm : Nat) : Int))), (6, (Value.bool (hasW S o.frm))), (19, (Value.bool (o.kind == 1)))] 3 ?_
 refine od ?_
 have h11 : (o.kind == 1) = false := beq_eq_false_iff_ne.2 (by omega)
 rw [h11]
 refine q_else (o := .tmp 19) (by kernel_rfl) rfl ?_
 refine q_skip (by kernel_rfl) ?_
 refine qs ?_
 refine qs ?_
 refine qg ?_
 refine og 2 [(0, (ptr r)), (3, (ptr b1)), (4, (i64 0)), (5, (i64 ((posW S o.frm : Nat) : Int))), (48, (Value.bool (!(hasW S o.frm))))] 2 ?_
 refine od ?_
 have h12 : (!(hasW S o.frm)) = false := by rw [show (hasW S o.frm) = true from hfs.1]; rfl
 rw [h12]
 refine q_else (o := .tmp 48) (by kernel_rfl) rfl ?_
 refine q_skip (by kernel_rfl) ?_
 refine qs ?_
 refine qs ?_
 refine qg ?_
 refine og 1 [(0, (ptr r)), (3, (ptr b1)), (4, (i64 0)), (5, (i64 ((posW S o.frm : Nat) : Int))), (49, (ptr b1))] 1 ?_
 refine Ops.go (v := (i64 o.kind)) (by kernel_rfl) (Runs.load (t := 3) (a := ⟨b1, 0, none⟩) (by kernel_rfl) (H4.loads (by kernel_rfl))) (d := (some 50)) (by kernel_rfl) rfl ?_
 refine og 1 [(0, (ptr r)), (3, (ptr b1)), (4, (i64 0)), (5, (i64 ((posW S o.frm : Nat) : Int))), (51, (Value.bool (o.kind == 2)))] 3 ?_
 refine od ?_
 have h13 : (o.kind == 2) = true := beq_iff_eq.2 (by omega)
 rw [h13]
 refine q_then (o := .tmp 51) (by kernel_rfl) rfl ?_
 refine qs ?_
 refine qs ?_
 refine q_draw (fun wz => Keeps none_ w10 wz) 12 (by kernel_rfl) (by kernel_rfl) (by kernel_rfl) (fun w14 K15 _ _ => ⟨K15, ?_⟩)
 replace K0 := K0.trans K15 (U := (fun i => i = gb)) (fun i h1 h2 => h2) (fun i h1 h2 => by exact h2.elim)
 replace Hr := Hr.keep K15 (fun h => h)
 replace Hg := Hg.keep K15 (fun h => h)
 replace H4 := H4.keep K15 (fun h => h)
 replace hO := own_keep0 hO K15
 replace hP := own_keep0 hP K15
 refine Dr.strong (S' := (fun wz => Keeps none_ w14 wz)) (Keeps.refl w14) (fun wz hx => K15.trans hx (fun i _ h => h) (fun _ _ h => h)) ?_
 clear K15
 refine Dr.takes (fuel' := 11) (is' := [0]) [0] [(0, (ptr r)), (3, (ptr b1)), (4, (i64 0)), (5, (i64 ((posW S o.frm : Nat) : Int))), (52, (Value.pointer (some ⟨b1, 3, none⟩)))] (by kernel_rfl) rfl (by kernel_rfl) ?_
 refine Dr.take (i := 1) (v := (i64 o.amount)) (by kernel_rfl) (by kernel_rfl) (fun wz hS => Runs.load (t := 2) (a := ⟨b1, 3, none⟩) (by kernel_rfl) ((H4.keep hS (fun h => h)).loads (by kernel_rfl))) (d := (some 53)) (by kernel_rfl) rfl ?_
 refine Dr.takes (fuel' := 7) (is' := [4, 3, 2, 1, 0]) [2, 3, 4] [(0, (ptr r)), (3, (ptr b1)), (4, (i64 0)), (5, (i64 ((posW S o.frm : Nat) : Int))), (53, (i64 o.amount)), (56, (ptr r))] (by kernel_rfl) rfl (by kernel_rfl) ?_
 refine Dr.take (i := 5) (v := (Value.slice A S.length c)) (by kernel_rfl) (by kernel_rfl) (fun wz hS => Runs.load (t := 28) (a := ⟨r, 0, none⟩) (by kernel_rfl) ((Hr.keep hS (fun h => h)).loads (by kernel_rfl))) (d := (some 57)) (by kernel_rfl) rfl ?_
 refine Dr.takes (fuel' := 5) (is' := [6, 5, 4, 3, 2, 1, 0]) [6] [(0, (ptr r)), (3, (ptr b1)), (4, (i64 0)), (5, (i64 ((posW S o.frm : Nat) : Int))), (53, (i64 o.amount)), (57, (Value.slice A S.length c)), (58, (i64 ((posW S o.frm : Nat) : Int)))] (by kernel_rfl) rfl (by kernel_rfl) ?_
 refine Dr.take (i := 7) (v := (Value.pointer (some ⟨gb, (posW S o.frm) * 2, none⟩))) (by kernel_rfl) (by kernel_rfl) (fun wz hS => Runs.ixSliceE (k := IntKind.i64) (t := 28) (len := S.length) (cap := c) (s := 2) (off' := (posW S o.frm) * 2) (i := ((posW S o.frm : Nat) : Int)) hA (by kernel_rfl) (by kernel_rfl) (by omega) (by omega) (by omega)) (d := (some 59)) (by kernel_rfl) rfl ?_
 refine Dr.takes (fuel' := 3) (is' := [8, 7, 6, 5, 4, 3, 2, 1, 0]) [8] [(0, (ptr r)), (3, (ptr b1)), (4, (i64 0)), (5, (i64 ((posW S o.frm : Nat) : Int))), (53, (i64 o.amount)), (60, (Value.pointer (some ⟨gb, (posW S o.frm) * 2 + 1, none⟩)))] (by kernel_rfl) rfl (by kernel_rfl) ?_
 refine Dr.take (i := 9) (v := (i64 a.amount)) (by kernel_rfl) (by kernel_rfl) (fun wz hS => Runs.load (t := 2) (a := ⟨gb, (posW S o.frm) * 2 + 1, none⟩) (by kernel_rfl) ((Hg.keep hS (fun h => h)).loads (loadC1 (by kernel_rfl) c1))) (d := (some 61)) (by kernel_rfl) rfl ?_
 refine Dr.takes (fuel' := 1) (is' := [10, 9, 8, 7, 6, 5, 4, 3, 2, 1, 0]) [10] [(0, (ptr r)), (3, (ptr b1)), (4, (i64 0)), (5, (i64 ((posW S o.frm : Nat) : Int))), (53, (i64 o.amount)), (62, (i64 (IntKind.i64.wrap (9223372036854775807 - a.amount))))] (by kernel_rfl) rfl (by kernel_rfl) ?_
 have e16 : IntKind.i64.wrap (9223372036854775807 - a.amount) = 9223372036854775807 - a.amount := wrap_i64 (by omega) (by omega)
 rw [e16]
 refine Dr.takes (fuel' := 0) (is' := [11, 10, 9, 8, 7, 6, 5, 4, 3, 2, 1, 0]) [11] [(0, (ptr r)), (3, (ptr b1)), (4, (i64 0)), (5, (i64 ((posW S o.frm : Nat) : Int))), (63, (Value.bool (decide (o.amount > 9223372036854775807 - a.amount))))] (by kernel_rfl) rfl (by kernel_rfl) ?_
 refine Dr.done (by kernel_rfl) ?_
 refine q_cond (o := .tmp 63) (b := (decide (o.amount > 9223372036854775807 - a.amount))) (by kernel_rfl) rfl (fun h17 => ?_) (fun h17 => ?_)
 ·rw [h17]
  have p18 : o.amount > 9223372036854775807 - a.amount := of_decide_eq_true h17
  refine qs ?_
  refine qg ?_
  refine og 1 [(0, (ptr r)), (3, (ptr b1)), (4, (i64 43)), (5, (i64 ((posW S o.frm : Nat) : Int)))] 1 ?_
  refine od ?_
  refine q_ret (by kernel_rfl) ?_
  refine ⟨(i64 43), retv_tmp rfl rfl, ?_⟩
  have e1 : actE S o = 43 := by unfold actE; rw [if_neg (by omega), hg]; simp only []; rw [if_pos hk2, if_pos (by omega)]
  have e2 : actS S o = S := act_refused (by rw [e1]; decide)
  rw [e1, e2]
  exact ⟨A, c, rfl, K0.mono fun i _ h => .inr (by rw [hA]; exact congrArg some (Eq.symm h)), Hr, hO, fun i h => .inl h⟩
 ·rw [h17]
  have p19 : ¬ (o.amount > 9223372036854775807 - a.amount) := of_decide_eq_false h17
  refine q_skip (by kernel_rfl) ?_
  refine qs ?_
  refine q_draw (fun wz => Keeps (fun i => i = gb) w14 wz) 19 (by kernel_rfl) (by kernel_rfl) (by kernel_rfl) (fun w20 K21 _ _ => ⟨(K21.mono (fun _ _ h => h.elim)), ?_⟩)
  replace K0 := K0.trans K21 (U := (fun i => i = gb)) (fun i h1 h2 => h2) (fun i h1 h2 => by exact h2.elim)
  replace Hr := Hr.keep K21 (fun h => h)
  replace Hg := Hg.keep K21 (fun h => h)
  replace H4 := H4.keep K21 (fun h => h)
  replace hO := own_keep0 hO K21
  replace hP := own_keep0 hP K21
  refine Dr.strong (S' := (fun wz => Keeps (fun i => i = gb) w20 wz)) ((Keeps.refl w20).mono (fun _ _ h => h.elim)) (fun wz hx => K21.trans hx (fun i _ h => h.elim) (fun _ _ h => h)) ?_
  clear K21
  refine Dr.takes (fuel' := 16) (is' := [2, 1, 0]) [0, 1, 2] [(0, (ptr r)), (3, (ptr b1)), (4, (i64 0)), (5, (i64 ((posW S o.frm : Nat) : Int))), (66, (ptr r))] (by kernel_rfl) rfl (by kernel_rfl) ?_
  refine Dr.take (i := 3) (v := (Value.slice A S.length c)) (by kernel_rfl) (by kernel_rfl) (fun wz hS => Runs.load (t := 28) (a := ⟨r, 0, none⟩) (by kernel_rfl) ((Hr.keep hS (by intro h; change r = gb at h; omega)).loads (by kernel_rfl))) (d := (some 67)) (by kernel_rfl) rfl ?_
  refine Dr.takes (fuel' := 11) (is' := [7, 6, 5, 4, 3, 2, 1, 0]) [4, 5, 6, 7] [(0, (ptr r)), (3, (ptr b1)), (4, (i64 0)), (5, (i64 ((posW S o.frm : Nat) : Int))), (67, (Value.slice A S.length c)), (68, (i64 ((posW S o.frm : Nat) : Int))), (71, (ptr r))] (by kernel_rfl) rfl (by kernel_rfl) ?_
  refine Dr.take (i := 8) (v := (Value.slice A S.length c)) (by kernel_rfl) (by kernel_rfl) (fun wz hS => Runs.load (t := 28) (a := ⟨r, 0, none⟩) (by kernel_rfl) ((Hr.keep hS (by intro h; change r = gb at h; omega)).loads (by kernel_rfl))) (d := (some 72)) (by kernel_rfl) rfl ?_
  refine Dr.takes (fuel' := 9) (is' := [9, 8, 7, 6, 5, 4, 3, 2, 1, 0]) [9] [(0, (ptr r)), (3, (ptr b1)), (4, (i64 0)), (5, (i64 ((posW S o.frm : Nat) : Int))), (67, (Value.slice A S.length c)), (68, (i64 ((posW S o.frm : Nat) : Int))), (72, (Value.slice A S.length c)), (73, (i64 ((posW S o.frm : Nat) : Int)))] (by kernel_rfl) rfl (by kernel_rfl) ?_
  refine Dr.take (i := 10) (v := (Value.pointer (some ⟨gb, (posW S o.frm) * 2, none⟩))) (by kernel_rfl) (by kernel_rfl) (fun wz hS => Runs.ixSliceE (k := IntKind.i64) (t := 28) (len := S.length) (cap := c) (s := 2) (off' := (posW S o.frm) * 2) (i := ((posW S o.frm : Nat) : Int)) hA (by kernel_rfl) (by kernel_rfl) (by omega) (by omega) (by omega)) (d := (some 74)) (by kernel_rfl) rfl ?_
  refine Dr.takes (fuel' := 6) (is' := [13, 11, 10, 9, 8, 7, 6, 5, 4, 3, 2, 1, 0]) [11, 13] [(0, (ptr r)), (3, (ptr b1)), (4, (i64 0)), (5, (i64 ((posW S o.frm : Nat) : Int))), (67, (Value.slice A S.length c)), (68, (i64 ((posW S o.frm : Nat) : Int))), (75, (Value.pointer (some ⟨gb, (posW S o.frm) * 2 + 1, none⟩))), (77, (Value.pointer (some ⟨b1, 3, none⟩)))] (by kernel_rfl) rfl (by kernel_rfl) ?_
  refine Dr.take (i := 14) (v := (i64 o.amount)) (by kernel_rfl) (by kernel_rfl) (fun wz hS => Runs.load (t := 2) (a := ⟨b1, 3, none⟩) (by kernel_rfl) ((H4.keep hS (by intro h; change b1 = gb at h; omega)).loads (by kernel_rfl))) (d := (some 78)) (by kernel_rfl) rfl ?_
  refine Dr.go (i := 12) (v := (i64 a.amount)) (by kernel_rfl) (by kernel_rfl) (Runs.load (t := 2) (a := ⟨gb, (posW S o.frm) * 2 + 1, none⟩) (by kernel_rfl) (Hg.loads (loadC1 (by kernel_rfl) c1))) (d := (some 76)) (by kernel_rfl) rfl ((Keeps.refl _).mono (fun _ _ h => h.elim)) ?_
  refine Dr.takes (fuel' := 3) (is' := [15, 12, 14, 13, 11, 10, 9, 8, 7, 6, 5, 4, 3, 2, 1, 0]) [15] [(0, (ptr r)), (3, (ptr b1)), (4, (i64 0)), (5, (i64 ((posW S o.frm : Nat) : Int))), (67, (Value.slice A S.length c)), (68, (i64 ((posW S o.frm : Nat) : Int))), (79, (i64 (IntKind.i64.wrap (a.amount + o.amount))))] (by kernel_rfl) rfl (by kernel_rfl) ?_
  have e22 : IntKind.i64.wrap (a.amount + o.amount) = a.amount + o.amount := wrap_i64 (by omega) (by omega)
  rw [e22]
  refine Dr.take (i := 16) (v := (Value.pointer (some ⟨gb, (posW S o.frm) * 2, none⟩))) (by kernel_rfl) (by kernel_rfl) (fun wz hS => Runs.ixSliceE (k := IntKind.i64) (t := 28) (len := S.length) (cap := c) (s := 2) (off' := (posW S o.frm) * 2) (i := ((posW S o.frm : Nat) : Int)) hA (by kernel_rfl) (by kernel_rfl) (by omega) (by omega) (by omega)) (d := (some 80)) (by kernel_rfl) rfl ?_
  refine Dr.takes (fuel' := 1) (is' := [17, 16, 15, 12, 14, 13, 11, 10, 9, 8, 7, 6, 5, 4, 3, 2, 1, 0]) [17] [(0, (ptr r)), (3, (ptr b1)), (4, (i64 0)), (5, (i64 ((posW S o.frm : Nat) : Int))), (79, (i64 (a.amount + o.amount))), (81, (Value.pointer (some ⟨gb, (posW S o.frm) * 2 + 1, none⟩)))] (by kernel_rfl) rfl (by kernel_rfl) ?_
  refine Dr.put (i := 18) (t := 2) (b := gb) (off := (posW S o.frm) * 2 + 1) (v := (i64 (a.amount + o.amount))) (ys := (cur.set ((posW S o.frm) * 2 + 1) (i64 (a.amount + o.amount)))) (by kernel_rfl) (by kernel_rfl) (by kernel_rfl) Hg (storeC1 (by kernel_rfl) rfl (by first | omega | (simp only [List.length_set]; omega)) rfl) (d := none) (by kernel_rfl) rfl (fun w23 H24 K25 => ?_)
  clear Hg
  replace K0 := K0.trans K25 (U := (fun i => i = gb)) (fun i h1 h2 => h2) (fun i h1 h2 => by have h2 : i = gb := h2; show i = gb; omega)
  replace Hr := Hr.keep K25 (by intro h; change r = gb at h; omega)
  replace H4 := H4.keep K25 (by intro h; change b1 = gb at h; omega)
  clear hO
  replace hP := own_keep hP K25 (fun i hi hs => by have hs : i = gb := hs; have := hgk i hi; omega)
  refine ⟨K25, ?_⟩
  refine Dr.strong (S' := (fun wz => Keeps (fun i => i = gb) w23 wz)) ((Keeps.refl w23).mono (fun _ _ h => h.elim)) (fun wz hx => K25.trans hx (fun i _ h => by have h : i = gb := h; show i = gb; omega) (fun _ _ h => h)) ?_
  clear K25
  refine Dr.done (by kernel_rfl) ?_
  refine qs ?_
  refine qg ?_
  refine og 1 [(0, (ptr r)), (3, (ptr b1)), (4, (i64 0)), (5, (i64 ((posW S o.frm : Nat) : Int)))] 1 ?_
  refine od ?_
  refine q_ret (by kernel_rfl) ?_
  refine ⟨(i64 0), retv_tmp rfl rfl, ?_⟩
  have e1 : actE S o = 0 := by unfold actE; rw [if_neg (by omega), hg]; simp only []; rw [if_pos hk2, if_neg (by omega)]
  have e2 : actS S o = S.set (posW S o.frm) ⟨o.frm, a.amount + o.amount⟩ := by unfold actS; rw [if_neg (by omega), hg]; simp only []; rw [if_pos hk2, if_neg (by omega)]; exact setw_at hS hg _
  have hq := hput 1 (i64 (a.amount + o.amount)) ⟨o.frm, a.amount + o.amount⟩ (by decide) (by rw [← hnm]; rfl) _ H24
  rw [e1, e2, List.length_set]
  exact ⟨A, c, rfl, K0.mono fun i _ h => .inr (by rw [hA]; exact congrArg some (Eq.symm h)), Hr, hq, fun i h => .inl h⟩

set_option maxHeartbeats 2000000 in
theorem Ract_three (w : World) (base r : Nat) (A : Option Addr) (c : Nat) (S : List RowM) (B : Option Addr) (d : Nat) (K : List KeptM) (o : Opm) (Hr : Has w r (rowL [.slice A S.length c, .slice B K.length d] 45)) (hO : OwnT w base 47 2 RowM.cells (.slice A S.length c) S) (hP : OwnT w base 90 10 kref (.slice B K.length d) K) (hne : ∀ i, (Value.slice A S.length c).ownBlock = some i → i ≠ r) (hne2 : ∀ i, (Value.slice B K.length d).ownBlock = some i → i ≠ r) (hnn : ∀ i, (Value.slice A S.length c).ownBlock = some i → (Value.slice B K.length d).ownBlock = some i → False) (hS : Led S) (hbw : base ≤ w.heap.size) (hk : 1 ≤ o.kind ∧ o.kind ≤ 4) (hr : -9223372036854775808 ≤ o.amount ∧ o.amount ≤ 9223372036854775807) (ha : o.kind ≠ 1 → 1 ≤ o.amount) (h4 : o.kind = 4 → o.frm ≠ o.to) (hSl : S.length ≤ 1000) (hk3 : o.kind = 3) (a : RowM) (hg : getW S o.frm = some a) : Calls Tryz.prog 42 ⟨[(ptr r), (agg [(i64 o.kind), (Value.string (str o.frm)), (Value.string (str o.to)), (i64 o.amount), (Value.string (str o.key)), (i64 o.slot), (i64 o.shard)])]⟩ w (fun e w' => ∃ A' c', e = .returned (i64 (actE S o)) ∧ Keeps (fun i => i = r ∨ (Value.slice A S.length c).ownBlock = some i) w w' ∧ Has w' r (rowL [.slice A' (actS S o).length c', .slice B K.length d] 45) ∧ OwnT w' base 47 2 RowM.cells (.slice A' (actS S o).length c') (actS S o) ∧ (∀ i, (Value.slice A' (actS S o).length c').ownBlock = some i → (Value.slice A S.length c).ownBlock = some i ∨ w.heap.size ≤ i)) := by
 have hR := OwnT.rd hO
 have hQ := OwnT.rd hP
 have Hrl := Hr.lt
 have hcap := RdT.len RowM.two (by decide) hR
 have hcapk := RdT.len kref10 (by decide) hQ
 unfold maxLen at hcap hcapk
 have hfs := findw_some hS hg
 have hf2 := hfs.2
 have hfl := (List.getElem?_eq_some_iff.1 hf2).1
 have hao := hS.ok a (getW_some hg).1
 have hal := hao.lo
 have hah := hao.hi
 have hnm := (getW_some hg).2
 obtain ⟨gb, cur, hA, hgb, Hg, hcl, hca, hput⟩ := OwnT.open RowM.two (by decide) hf2 hO
 have c1 : cur[posW S o.frm * 2 + 1]? = some (i64 a.amount) := hca 1 _ rfl
 have hgr : gb ≠ r := hne gb (by rw [hA]; rfl)
 have hgk : ∀ i, (Value.slice B K.length d).ownBlock = some i → i ≠ gb := fun i hi q => by subst q; exact hnn i (by rw [hA]; rfl) hi
 have Hgl := Hg.lt
 have K0 : Keeps (fun i => i = gb) w w := (Keeps.refl w).mono (fun _ _ h => h.elim)
 refine q_calls Tryz.func42 (by kernel_rfl) (by kernel_rfl) ?_
 refine qs ?_
 refine qg ?_
 refine Ops.new (o := rowL [(i64 o.kind), (Value.string (str o.frm)), (Value.string (str o.to)), (i64 o.amount), (Value.string (str o.key)), (i64 o.slot), (i64 o.shard)] 24) (V := fun b => (ptr b)) (by kernel_rfl) (d := (some 3)) (by kernel_rfl) (fun b => rfl) (fun b1 w2 hb3 H4 K5 hs6 => ?_)
 have lb1r : r < b1 := by have := Hr.lt; omega
 have lb1gb : gb < b1 := by have := Hg.lt; omega
 have nb1 : w.heap.size ≤ b1 := by have := K0.size; omega
 have ob7 : ∀ i, ((Value.slice A S.length c)).ownBlock = some i → i < b1 := fun i hi => by have := (World.ownsRow.lt hO i hi).2; omega
 have ob8 : ∀ i, ((Value.slice B K.length d)).ownBlock = some i → i < b1 := fun i hi => by have := (World.ownsRow.lt hP i hi).2; omega
 replace K0 := K0.trans K5 (U := (fun i => i = gb)) (fun i h1 h2 => h2) (fun i h1 h2 => by exact h2.elim)
 replace Hr := Hr.keep K5 (fun h => h)
 replace Hg := Hg.keep K5 (fun h => h)
 replace hO := own_keep0 hO K5
 replace hP := own_keep0 hP K5
 clear K5 hs6
 refine og 1 [(0, (ptr r)), (3, (ptr b1)), (4, (i64 0))] 2 ?_
 refine od ?_
 refine qs ?_
 refine qg ?_
 refine og 2 [(0, (ptr r)), (3, (ptr b1)), (4, (i64 0)), (11, (ptr r)), (12, (Value.pointer (some ⟨b1, 1, none⟩)))] 2 ?_
 refine Ops.go (v := (Value.string (str o.frm))) (by kernel_rfl) (Runs.load (t := 9) (a := ⟨b1, 1, none⟩) (by kernel_rfl) (H4.loads (by kernel_rfl))) (d := (some 13)) (by kernel_rfl) rfl ?_
 refine Ops.call (by kernel_rfl) (d := (some 14)) (by kernel_rfl) (Rfind_calls _ r A c S B d K o.frm Hr (OwnT.rd hO) (OwnT.rd hP)) ?_
 rintro _ w10 ⟨rfl, K9⟩
 refine ⟨_, _, rfl, rfl, ?_⟩
 replace K0 := K0.trans K9 (U := (fun i => i = gb)) (fun i h1 h2 => h2) (fun i h1 h2 => by exact h2.elim)
 replace Hr := Hr.keep K9 (fun h => h)
 replace Hg := Hg.keep K9 (fun h => h)
 replace H4 := H4.keep K9 (fun h => h)
 replace hO := own_keep0 hO K9
 replace hP := own_keep0 hP K9
 clear K9
 refine og 5 [(0, (ptr r)), (3, (ptr b1)), (4, (i64 0)), (5, (i64 ((posW S o.frm : Nat) : Int))), (6, (Value.bool (hasW S o.frm)))] 9 ?_
 refine od ?_
 refine qs ?_
 refine qs ?_
 refine qg ?_
 refine og 1 [(0, (ptr r)), (3, (ptr b1)), (4, (i64 0)), (5, (i64 ((posW S o.frm : Nat) : Int))), (6, (Value.bool (hasW S o.frm))), (17, (ptr b1))] 1 ?_
 refine Ops.go (v := (i64 o.kind)) (by kernel_rfl) (Runs.load (t := 3) (a := ⟨b1, 0, none⟩) (by kernel_rfl) (H4.loads (by kernel_rfl))) (d := (some 18)) (by kernel_rfl) rfl ?_
 refine og 1 [(0, (ptr r)), (3, (ptr b1)), (4, (i64 0)), (5, (i64 ((posW S o.frm : Nat) : Int))), (6, (Value.bool (hasW S o.frm))), (19, (Value.bool (o.kind == 1)))] 3 ?_
 refine od ?_
 have h11 : (o.kind == 1) = false := beq_eq_false_iff_ne.2 (by omega)
 rw [h11]
 refine q_else (o := .tmp 19) (by kernel_rfl) rfl ?_
 refine q_skip (by kernel_rfl) ?_
 refine qs ?_
 refine qs ?_
 refine qg ?_
 refine og 2 [(0, (ptr r)), (3, (ptr b1)), (4, (i64 0)), (5, (i64 ((posW S o.frm : Nat) : Int))), (48, (Value.bool (!(hasW S o.frm))))] 2 ?_
 refine od ?_
 have h12 : (!(hasW S o.frm)) = false := by rw [show (hasW S o.frm) = true from hfs.1]; rfl
 rw [h12]
 refine q_else (o := .tmp 48) (by kernel_rfl) rfl ?_
 refine q_skip (by kernel_rfl) ?_
 refine qs ?_
 refine qs ?_
 refine qg ?_
 refine og 1 [(0, (ptr r)), (3, (ptr b1)), (4, (i64 0)), (5, (i64 ((posW S o.frm : Nat) : Int))), (49, (ptr b1))] 1 ?_
 refine Ops.go (v := (i64 o.kind)) (by kernel_rfl) (Runs.load (t := 3) (a := ⟨b1, 0, none⟩) (by kernel_rfl) (H4.loads (by kernel_rfl))) (d := (some 50)) (by kernel_rfl) rfl ?_
 refine og 1 [(0, (ptr r)), (3, (ptr b1)), (4, (i64 0)), (5, (i64 ((posW S o.frm : Nat) : Int))), (51, (Value.bool (o.kind == 2)))] 3 ?_
 refine od ?_
 have h13 : (o.kind == 2) = false := beq_eq_false_iff_ne.2 (by omega)
 rw [h13]
 refine q_else (o := .tmp 51) (by kernel_rfl) rfl ?_
 refine q_skip (by kernel_rfl) ?_
 refine qs ?_
 refine qs ?_
 refine q_draw (fun wz => Keeps none_ w10 wz) 11 (by kernel_rfl) (by kernel_rfl) (by kernel_rfl) (fun w14 K15 _ _ => ⟨K15, ?_⟩)
 replace K0 := K0.trans K15 (U := (fun i => i = gb)) (fun i h1 h2 => h2) (fun i h1 h2 => by exact h2.elim)
 replace Hr := Hr.keep K15 (fun h => h)
 replace Hg := Hg.keep K15 (fun h => h)
 replace H4 := H4.keep K15 (fun h => h)
 replace hO := own_keep0 hO K15
 replace hP := own_keep0 hP K15
 refine Dr.strong (S' := (fun wz => Keeps none_ w14 wz)) (Keeps.refl w14) (fun wz hx => K15.trans hx (fun i _ h => h) (fun _ _ h => h)) ?_
 clear K15
 refine Dr.takes (fuel' := 10) (is' := [0]) [0] [(0, (ptr r)), (3, (ptr b1)), (4, (i64 0)), (5, (i64 ((posW S o.frm : Nat) : Int))), (82, (Value.pointer (some ⟨b1, 3, none⟩)))] (by kernel_rfl) rfl (by kernel_rfl) ?_
 refine Dr.take (i := 1) (v := (i64 o.amount)) (by kernel_rfl) (by kernel_rfl) (fun wz hS => Runs.load (t := 2) (a := ⟨b1, 3, none⟩) (by kernel_rfl) ((H4.keep hS (fun h => h)).loads (by kernel_rfl))) (d := (some 83)) (by kernel_rfl) rfl ?_
 refine Dr.takes (fuel' := 6) (is' := [4, 3, 2, 1, 0]) [2, 3, 4] [(0, (ptr r)), (3, (ptr b1)), (4, (i64 0)), (5, (i64 ((posW S o.frm : Nat) : Int))), (83, (i64 o.amount)), (86, (ptr r))] (by kernel_rfl) rfl (by kernel_rfl) ?_
 refine Dr.take (i := 5) (v := (Value.slice A S.length c)) (by kernel_rfl) (by kernel_rfl) (fun wz hS => Runs.load (t := 28) (a := ⟨r, 0, none⟩) (by kernel_rfl) ((Hr.keep hS (fun h => h)).loads (by kernel_rfl))) (d := (some 87)) (by kernel_rfl) rfl ?_
 refine Dr.takes (fuel' := 4) (is' := [6, 5, 4, 3, 2, 1, 0]) [6] [(0, (ptr r)), (3, (ptr b1)), (4, (i64 0)), (5, (i64 ((posW S o.frm : Nat) : Int))), (83, (i64 o.amount)), (87, (Value.slice A S.length c)), (88, (i64 ((posW S o.frm : Nat) : Int)))] (by kernel_rfl) rfl (by kernel_rfl) ?_
 refine Dr.take (i := 7) (v := (Value.pointer (some ⟨gb, (posW S o.frm) * 2, none⟩))) (by kernel_rfl) (by kernel_rfl) (fun wz hS => Runs.ixSliceE (k := IntKind.i64) (t := 28) (len := S.length) (cap := c) (s := 2) (off' := (posW S o.frm) * 2) (i := ((posW S o.frm : Nat) : Int)) hA (by kernel_rfl) (by kernel_rfl) (by omega) (by omega) (by omega)) (d := (some 89)) (by kernel_rfl) rfl ?_
 refine Dr.takes (fuel' := 2) (is' := [8, 7, 6, 5, 4, 3, 2, 1, 0]) [8] [(0, (ptr r)), (3, (ptr b1)), (4, (i64 0)), (5, (i64 ((posW S o.frm : Nat) : Int))), (83, (i64 o.amount)), (90, (Value.pointer (some ⟨gb, (posW S o.frm) * 2 + 1, none⟩)))] (by kernel_rfl) rfl (by kernel_rfl) ?_
 refine Dr.take (i := 9) (v := (i64 a.amount)) (by kernel_rfl) (by kernel_rfl) (fun wz hS => Runs.load (t := 2) (a := ⟨gb, (posW S o.frm) * 2 + 1, none⟩) (by kernel_rfl) ((Hg.keep hS (fun h => h)).loads (loadC1 (by kernel_rfl) c1))) (d := (some 91)) (by kernel_rfl) rfl ?_
 refine Dr.takes (fuel' := 0) (is' := [10, 9, 8, 7, 6, 5, 4, 3, 2, 1, 0]) [10] [(0, (ptr r)), (3, (ptr b1)), (4, (i64 0)), (5, (i64 ((posW S o.frm : Nat) : Int))), (92, (Value.bool (decide (o.amount > a.amount))))] (by kernel_rfl) rfl (by kernel_rfl) ?_
 refine Dr.done (by kernel_rfl) ?_
 refine q_cond (o := .tmp 92) (b := (decide (o.amount > a.amount))) (by kernel_rfl) rfl (fun h16 => ?_) (fun h16 => ?_)
 ·rw [h16]
  have p17 : o.amount > a.amount := of_decide_eq_true h16
  refine qs ?_
  refine qg ?_
  refine og 1 [(0, (ptr r)), (3, (ptr b1)), (4, (i64 42)), (5, (i64 ((posW S o.frm : Nat) : Int)))] 1 ?_
  refine od ?_
  refine q_ret (by kernel_rfl) ?_
  refine ⟨(i64 42), retv_tmp rfl rfl, ?_⟩
  have e1 : actE S o = 42 := by unfold actE; rw [if_neg (by omega), hg]; simp only []; rw [if_neg (by omega), if_pos (by omega)]
  have e2 : actS S o = S := act_refused (by rw [e1]; decide)
  rw [e1, e2]
  exact ⟨A, c, rfl, K0.mono fun i _ h => .inr (by rw [hA]; exact congrArg some (Eq.symm h)), Hr, hO, fun i h => .inl h⟩
 ·rw [h16]
  have p18 : ¬ (o.amount > a.amount) := of_decide_eq_false h16
  refine q_skip (by kernel_rfl) ?_
  refine qs ?_
  refine qs ?_
  refine qg ?_
  refine og 1 [(0, (ptr r)), (3, (ptr b1)), (4, (i64 0)), (5, (i64 ((posW S o.frm : Nat) : Int))), (93, (ptr b1))] 1 ?_
  refine Ops.go (v := (i64 o.kind)) (by kernel_rfl) (Runs.load (t := 3) (a := ⟨b1, 0, none⟩) (by kernel_rfl) (H4.loads (by kernel_rfl))) (d := (some 94)) (by kernel_rfl) rfl ?_
  refine og 1 [(0, (ptr r)), (3, (ptr b1)), (4, (i64 0)), (5, (i64 ((posW S o.frm : Nat) : Int))), (95, (Value.bool (o.kind == 4)))] 3 ?_
  refine od ?_
  have h19 : (o.kind == 4) = false := beq_eq_false_iff_ne.2 (by omega)
  rw [h19]
  refine q_else (o := .tmp 95) (by kernel_rfl) rfl ?_
  refine q_skip (by kernel_rfl) ?_
  refine qs ?_
  refine q_draw (fun wz => Keeps (fun i => i = gb) w14 wz) 19 (by kernel_rfl) (by kernel_rfl) (by kernel_rfl) (fun w20 K21 _ _ => ⟨(K21.mono (fun _ _ h => h.elim)), ?_⟩)
  replace K0 := K0.trans K21 (U := (fun i => i = gb)) (fun i h1 h2 => h2) (fun i h1 h2 => by exact h2.elim)
  replace Hr := Hr.keep K21 (fun h => h)
  replace Hg := Hg.keep K21 (fun h => h)
  replace H4 := H4.keep K21 (fun h => h)
  replace hO := own_keep0 hO K21
  replace hP := own_keep0 hP K21
  refine Dr.strong (S' := (fun wz => Keeps (fun i => i = gb) w20 wz)) ((Keeps.refl w20).mono (fun _ _ h => h.elim)) (fun wz hx => K21.trans hx (fun i _ h => h.elim) (fun _ _ h => h)) ?_
  clear K21
  refine Dr.takes (fuel' := 16) (is' := [2, 1, 0]) [0, 1, 2] [(0, (ptr r)), (3, (ptr b1)), (4, (i64 0)), (5, (i64 ((posW S o.frm : Nat) : Int))), (137, (ptr r))] (by kernel_rfl) rfl (by kernel_rfl) ?_
  refine Dr.take (i := 3) (v := (Value.slice A S.length c)) (by kernel_rfl) (by kernel_rfl) (fun wz hS => Runs.load (t := 28) (a := ⟨r, 0, none⟩) (by kernel_rfl) ((Hr.keep hS (by intro h; change r = gb at h; omega)).loads (by kernel_rfl))) (d := (some 138)) (by kernel_rfl) rfl ?_
  refine Dr.takes (fuel' := 11) (is' := [7, 6, 5, 4, 3, 2, 1, 0]) [4, 5, 6, 7] [(3, (ptr b1)), (4, (i64 0)), (5, (i64 ((posW S o.frm : Nat) : Int))), (138, (Value.slice A S.length c)), (139, (i64 ((posW S o.frm : Nat) : Int))), (142, (ptr r))] (by kernel_rfl) rfl (by kernel_rfl) ?_
  refine Dr.take (i := 8) (v := (Value.slice A S.length c)) (by kernel_rfl) (by kernel_rfl) (fun wz hS => Runs.load (t := 28) (a := ⟨r, 0, none⟩) (by kernel_rfl) ((Hr.keep hS (by intro h; change r = gb at h; omega)).loads (by kernel_rfl))) (d := (some 143)) (by kernel_rfl) rfl ?_
  refine Dr.takes (fuel' := 9) (is' := [9, 8, 7, 6, 5, 4, 3, 2, 1, 0]) [9] [(3, (ptr b1)), (4, (i64 0)), (138, (Value.slice A S.length c)), (139, (i64 ((posW S o.frm : Nat) : Int))), (143, (Value.slice A S.length c)), (144, (i64 ((posW S o.frm : Nat) : Int)))] (by kernel_rfl) rfl (by kernel_rfl) ?_
  refine Dr.take (i := 10) (v := (Value.pointer (some ⟨gb, (posW S o.frm) * 2, none⟩))) (by kernel_rfl) (by kernel_rfl) (fun wz hS => Runs.ixSliceE (k := IntKind.i64) (t := 28) (len := S.length) (cap := c) (s := 2) (off' := (posW S o.frm) * 2) (i := ((posW S o.frm : Nat) : Int)) hA (by kernel_rfl) (by kernel_rfl) (by omega) (by omega) (by omega)) (d := (some 145)) (by kernel_rfl) rfl ?_
  refine Dr.takes (fuel' := 6) (is' := [13, 11, 10, 9, 8, 7, 6, 5, 4, 3, 2, 1, 0]) [11, 13] [(4, (i64 0)), (138, (Value.slice A S.length c)), (139, (i64 ((posW S o.frm : Nat) : Int))), (146, (Value.pointer (some ⟨gb, (posW S o.frm) * 2 + 1, none⟩))), (148, (Value.pointer (some ⟨b1, 3, none⟩)))] (by kernel_rfl) rfl (by kernel_rfl) ?_
  refine Dr.take (i := 14) (v := (i64 o.amount)) (by kernel_rfl) (by kernel_rfl) (fun wz hS => Runs.load (t := 2) (a := ⟨b1, 3, none⟩) (by kernel_rfl) ((H4.keep hS (by intro h; change b1 = gb at h; omega)).loads (by kernel_rfl))) (d := (some 149)) (by kernel_rfl) rfl ?_
  refine Dr.go (i := 12) (v := (i64 a.amount)) (by kernel_rfl) (by kernel_rfl) (Runs.load (t := 2) (a := ⟨gb, (posW S o.frm) * 2 + 1, none⟩) (by kernel_rfl) (Hg.loads (loadC1 (by kernel_rfl) c1))) (d := (some 147)) (by kernel_rfl) rfl ((Keeps.refl _).mono (fun _ _ h => h.elim)) ?_
  refine Dr.takes (fuel' := 3) (is' := [15, 12, 14, 13, 11, 10, 9, 8, 7, 6, 5, 4, 3, 2, 1, 0]) [15] [(4, (i64 0)), (138, (Value.slice A S.length c)), (139, (i64 ((posW S o.frm : Nat) : Int))), (150, (i64 (IntKind.i64.wrap (a.amount - o.amount))))] (by kernel_rfl) rfl (by kernel_rfl) ?_
  have e22 : IntKind.i64.wrap (a.amount - o.amount) = a.amount - o.amount := wrap_i64 (by omega) (by omega)
  rw [e22]
  refine Dr.take (i := 16) (v := (Value.pointer (some ⟨gb, (posW S o.frm) * 2, none⟩))) (by kernel_rfl) (by kernel_rfl) (fun wz hS => Runs.ixSliceE (k := IntKind.i64) (t := 28) (len := S.length) (cap := c) (s := 2) (off' := (posW S o.frm) * 2) (i := ((posW S o.frm : Nat) : Int)) hA (by kernel_rfl) (by kernel_rfl) (by omega) (by omega) (by omega)) (d := (some 151)) (by kernel_rfl) rfl ?_
  refine Dr.takes (fuel' := 1) (is' := [17, 16, 15, 12, 14, 13, 11, 10, 9, 8, 7, 6, 5, 4, 3, 2, 1, 0]) [17] [(4, (i64 0)), (150, (i64 (a.amount - o.amount))), (152, (Value.pointer (some ⟨gb, (posW S o.frm) * 2 + 1, none⟩)))] (by kernel_rfl) rfl (by kernel_rfl) ?_
  refine Dr.put (i := 18) (t := 2) (b := gb) (off := (posW S o.frm) * 2 + 1) (v := (i64 (a.amount - o.amount))) (ys := (cur.set ((posW S o.frm) * 2 + 1) (i64 (a.amount - o.amount)))) (by kernel_rfl) (by kernel_rfl) (by kernel_rfl) Hg (storeC1 (by kernel_rfl) rfl (by first | omega | (simp only [List.length_set]; omega)) rfl) (d := none) (by kernel_rfl) rfl (fun w23 H24 K25 => ?_)
  clear Hg
  replace K0 := K0.trans K25 (U := (fun i => i = gb)) (fun i h1 h2 => h2) (fun i h1 h2 => by have h2 : i = gb := h2; show i = gb; omega)
  replace Hr := Hr.keep K25 (by intro h; change r = gb at h; omega)
  replace H4 := H4.keep K25 (by intro h; change b1 = gb at h; omega)
  clear hO
  replace hP := own_keep hP K25 (fun i hi hs => by have hs : i = gb := hs; have := hgk i hi; omega)
  refine ⟨K25, ?_⟩
  refine Dr.strong (S' := (fun wz => Keeps (fun i => i = gb) w23 wz)) ((Keeps.refl w23).mono (fun _ _ h => h.elim)) (fun wz hx => K25.trans hx (fun i _ h => by have h : i = gb := h; show i = gb; omega) (fun _ _ h => h)) ?_
  clear K25
  refine Dr.done (by kernel_rfl) ?_
  refine qs ?_
  refine qg ?_
  refine og 1 [(4, (i64 0))] 1 ?_
  refine od ?_
  refine q_ret (by kernel_rfl) ?_
  refine ⟨(i64 0), retv_tmp rfl rfl, ?_⟩
  have e1 : actE S o = 0 := by unfold actE; rw [if_neg (by omega), hg]; simp only []; rw [if_neg (by omega), if_neg (by omega), if_neg (by omega)]
  have e2 : actS S o = S.set (posW S o.frm) ⟨o.frm, a.amount - o.amount⟩ := by unfold actS; rw [if_neg (by omega), hg]; simp only []; rw [if_neg (by omega), if_neg (by omega), if_neg (by omega)]; exact setw_at hS hg _
  have hq := hput 1 (i64 (a.amount - o.amount)) ⟨o.frm, a.amount - o.amount⟩ (by decide) (by rw [← hnm]; rfl) _ H24
  rw [e1, e2, List.length_set]
  exact ⟨A, c, rfl, K0.mono fun i _ h => .inr (by rw [hA]; exact congrArg some (Eq.symm h)), Hr, hq, fun i h => .inl h⟩

set_option maxHeartbeats 2000000 in
theorem Ract_four0 (w : World) (base r : Nat) (A : Option Addr) (c : Nat) (S : List RowM) (B : Option Addr) (d : Nat) (K : List KeptM) (o : Opm) (Hr : Has w r (rowL [.slice A S.length c, .slice B K.length d] 45)) (hO : OwnT w base 47 2 RowM.cells (.slice A S.length c) S) (hP : OwnT w base 90 10 kref (.slice B K.length d) K) (hne : ∀ i, (Value.slice A S.length c).ownBlock = some i → i ≠ r) (hne2 : ∀ i, (Value.slice B K.length d).ownBlock = some i → i ≠ r) (hnn : ∀ i, (Value.slice A S.length c).ownBlock = some i → (Value.slice B K.length d).ownBlock = some i → False) (hS : Led S) (hbw : base ≤ w.heap.size) (hk : 1 ≤ o.kind ∧ o.kind ≤ 4) (hr : -9223372036854775808 ≤ o.amount ∧ o.amount ≤ 9223372036854775807) (ha : o.kind ≠ 1 → 1 ≤ o.amount) (h4 : o.kind = 4 → o.frm ≠ o.to) (hSl : S.length ≤ 1000) (hk4 : o.kind = 4) (a : RowM) (hg : getW S o.frm = some a) (ht : getW S o.to = none) : Calls Tryz.prog 42 ⟨[(ptr r), (agg [(i64 o.kind), (Value.string (str o.frm)), (Value.string (str o.to)), (i64 o.amount), (Value.string (str o.key)), (i64 o.slot), (i64 o.shard)])]⟩ w (fun e w' => ∃ A' c', e = .returned (i64 (actE S o)) ∧ Keeps (fun i => i = r ∨ (Value.slice A S.length c).ownBlock = some i) w w' ∧ Has w' r (rowL [.slice A' (actS S o).length c', .slice B K.length d] 45) ∧ OwnT w' base 47 2 RowM.cells (.slice A' (actS S o).length c') (actS S o) ∧ (∀ i, (Value.slice A' (actS S o).length c').ownBlock = some i → (Value.slice A S.length c).ownBlock = some i ∨ w.heap.size ≤ i)) := by
 have hR := OwnT.rd hO
 have hQ := OwnT.rd hP
 have Hrl := Hr.lt
 have hcap := RdT.len RowM.two (by decide) hR
 have hcapk := RdT.len kref10 (by decide) hQ
 unfold maxLen at hcap hcapk
 have hfs := findw_some hS hg
 have hf2 := hfs.2
 have hfl := (List.getElem?_eq_some_iff.1 hf2).1
 have hao := hS.ok a (getW_some hg).1
 have hal := hao.lo
 have hah := hao.hi
 have hnm := (getW_some hg).2
 have hft := findw_none ht
 obtain ⟨gb, cur, hA, hgb, Hg, hcl, hca, hput⟩ := OwnT.open RowM.two (by decide) hf2 hO
 have c1 : cur[posW S o.frm * 2 + 1]? = some (i64 a.amount) := hca 1 _ rfl
 have hgr : gb ≠ r := hne gb (by rw [hA]; rfl)
 have hgk : ∀ i, (Value.slice B K.length d).ownBlock = some i → i ≠ gb := fun i hi q => by subst q; exact hnn i (by rw [hA]; rfl) hi
 have Hgl := Hg.lt
 have K0 : Keeps (fun i => i = gb) w w := (Keeps.refl w).mono (fun _ _ h => h.elim)
 refine q_calls Tryz.func42 (by kernel_rfl) (by kernel_rfl) ?_
 refine qs ?_
 refine qg ?_
 refine Ops.new (o := rowL [(i64 o.kind), (Value.string (str o.frm)), (Value.string (str o.to)), (i64 o.amount), (Value.string (str o.key)), (i64 o.slot), (i64 o.shard)] 24) (V := fun b => (ptr b)) (by kernel_rfl) (d := (some 3)) (by kernel_rfl) (fun b => rfl) (fun b1 w2 hb3 H4 K5 hs6 => ?_)
 have lb1r : r < b1 := by have := Hr.lt; omega
 have lb1gb : gb < b1 := by have := Hg.lt; omega
 have nb1 : w.heap.size ≤ b1 := by have := K0.size; omega
 have ob7 : ∀ i, ((Value.slice A S.length c)).ownBlock = some i → i < b1 := fun i hi => by have := (World.ownsRow.lt hO i hi).2; omega
 have ob8 : ∀ i, ((Value.slice B K.length d)).ownBlock = some i → i < b1 := fun i hi => by have := (World.ownsRow.lt hP i hi).2; omega
 replace K0 := K0.trans K5 (U := (fun i => i = gb)) (fun i h1 h2 => h2) (fun i h1 h2 => by exact h2.elim)
 replace Hr := Hr.keep K5 (fun h => h)
 replace Hg := Hg.keep K5 (fun h => h)
 replace hO := own_keep0 hO K5
 replace hP := own_keep0 hP K5
 clear K5 hs6
 refine og 1 [(0, (ptr r)), (3, (ptr b1)), (4, (i64 0))] 2 ?_
 refine od ?_
 refine qs ?_
 refine qg ?_
 refine og 2 [(0, (ptr r)), (3, (ptr b1)), (4, (i64 0)), (11, (ptr r)), (12, (Value.pointer (some ⟨b1, 1, none⟩)))] 2 ?_
 refine Ops.go (v := (Value.string (str o.frm))) (by kernel_rfl) (Runs.load (t := 9) (a := ⟨b1, 1, none⟩) (by kernel_rfl) (H4.loads (by kernel_rfl))) (d := (some 13)) (by kernel_rfl) rfl ?_
 refine Ops.call (by kernel_rfl) (d := (some 14)) (by kernel_rfl) (Rfind_calls _ r A c S B d K o.frm Hr (OwnT.rd hO) (OwnT.rd hP)) ?_
 rintro _ w10 ⟨rfl, K9⟩
 refine ⟨_, _, rfl, rfl, ?_⟩
 replace K0 := K0.trans K9 (U := (fun i => i = gb)) (fun i h1 h2 => h2) (fun i h1 h2 => by exact h2.elim)
 replace Hr := Hr.keep K9 (fun h => h)
 replace Hg := Hg.keep K9 (fun h => h)
 replace H4 := H4.keep K9 (fun h => h)
 replace hO := own_keep0 hO K9
 replace hP := own_keep0 hP K9
 clear K9
 refine og 5 [(0, (ptr r)), (3, (ptr b1)), (4, (i64 0)), (5, (i64 ((posW S o.frm : Nat) : Int))), (6, (Value.bool (hasW S o.frm)))] 9 ?_
 refine od ?_
 refine qs ?_
 refine qs ?_
 refine qg ?_
 refine og 1 [(0, (ptr r)), (3, (ptr b1)), (4, (i64 0)), (5, (i64 ((posW S o.frm : Nat) : Int))), (6, (Value.bool (hasW S o.frm))), (17, (ptr b1))] 1 ?_
 refine Ops.go (v := (i64 o.kind)) (by kernel_rfl) (Runs.load (t := 3) (a := ⟨b1, 0, none⟩) (by kernel_rfl) (H4.loads (by kernel_rfl))) (d := (some 18)) (by kernel_rfl) rfl ?_
 refine og 1 [(0, (ptr r)), (3, (ptr b1)), (4, (i64 0)), (5, (i64 ((posW S o.frm : Nat) : Int))), (6, (Value.bool (hasW S o.frm))), (19, (Value.bool (o.kind == 1)))] 3 ?_
 refine od ?_
 have h11 : (o.kind == 1) = false := beq_eq_false_iff_ne.2 (by omega)
 rw [h11]
 refine q_else (o := .tmp 19) (by kernel_rfl) rfl ?_
 refine q_skip (by kernel_rfl) ?_
 refine qs ?_
 refine qs ?_
 refine qg ?_
 refine og 2 [(0, (ptr r)), (3, (ptr b1)), (4, (i64 0)), (5, (i64 ((posW S o.frm : Nat) : Int))), (48, (Value.bool (!(hasW S o.frm))))] 2 ?_
 refine od ?_
 have h12 : (!(hasW S o.frm)) = false := by rw [show (hasW S o.frm) = true from hfs.1]; rfl
 rw [h12]
 refine q_else (o := .tmp 48) (by kernel_rfl) rfl ?_
 refine q_skip (by kernel_rfl) ?_
 refine qs ?_
 refine qs ?_
 refine qg ?_
 refine og 1 [(0, (ptr r)), (3, (ptr b1)), (4, (i64 0)), (5, (i64 ((posW S o.frm : Nat) : Int))), (49, (ptr b1))] 1 ?_
 refine Ops.go (v := (i64 o.kind)) (by kernel_rfl) (Runs.load (t := 3) (a := ⟨b1, 0, none⟩) (by kernel_rfl) (H4.loads (by kernel_rfl))) (d := (some 50)) (by kernel_rfl) rfl ?_
 refine og 1 [(0, (ptr r)), (3, (ptr b1)), (4, (i64 0)), (5, (i64 ((posW S o.frm : Nat) : Int))), (51, (Value.bool (o.kind == 2)))] 3 ?_
 refine od ?_
 have h13 : (o.kind == 2) = false := beq_eq_false_iff_ne.2 (by omega)
 rw [h13]
 refine q_else (o := .tmp 51) (by kernel_rfl) rfl ?_
 refine q_skip (by kernel_rfl) ?_
 refine qs ?_
 refine qs ?_
 refine q_draw (fun wz => Keeps none_ w10 wz) 11 (by kernel_rfl) (by kernel_rfl) (by kernel_rfl) (fun w14 K15 _ _ => ⟨K15, ?_⟩)
 replace K0 := K0.trans K15 (U := (fun i => i = gb)) (fun i h1 h2 => h2) (fun i h1 h2 => by exact h2.elim)
 replace Hr := Hr.keep K15 (fun h => h)
 replace Hg := Hg.keep K15 (fun h => h)
 replace H4 := H4.keep K15 (fun h => h)
 replace hO := own_keep0 hO K15
 replace hP := own_keep0 hP K15
 refine Dr.strong (S' := (fun wz => Keeps none_ w14 wz)) (Keeps.refl w14) (fun wz hx => K15.trans hx (fun i _ h => h) (fun _ _ h => h)) ?_
 clear K15
 refine Dr.takes (fuel' := 10) (is' := [0]) [0] [(0, (ptr r)), (3, (ptr b1)), (4, (i64 0)), (5, (i64 ((posW S o.frm : Nat) : Int))), (82, (Value.pointer (some ⟨b1, 3, none⟩)))] (by kernel_rfl) rfl (by kernel_rfl) ?_
 refine Dr.take (i := 1) (v := (i64 o.amount)) (by kernel_rfl) (by kernel_rfl) (fun wz hS => Runs.load (t := 2) (a := ⟨b1, 3, none⟩) (by kernel_rfl) ((H4.keep hS (fun h => h)).loads (by kernel_rfl))) (d := (some 83)) (by kernel_rfl) rfl ?_
 refine Dr.takes (fuel' := 6) (is' := [4, 3, 2, 1, 0]) [2, 3, 4] [(0, (ptr r)), (3, (ptr b1)), (4, (i64 0)), (5, (i64 ((posW S o.frm : Nat) : Int))), (83, (i64 o.amount)), (86, (ptr r))] (by kernel_rfl) rfl (by kernel_rfl) ?_
 refine Dr.take (i := 5) (v := (Value.slice A S.length c)) (by kernel_rfl) (by kernel_rfl) (fun wz hS => Runs.load (t := 28) (a := ⟨r, 0, none⟩) (by kernel_rfl) ((Hr.keep hS (fun h => h)).loads (by kernel_rfl))) (d := (some 87)) (by kernel_rfl) rfl ?_
 refine Dr.takes (fuel' := 4) (is' := [6, 5, 4, 3, 2, 1, 0]) [6] [(0, (ptr r)), (3, (ptr b1)), (4, (i64 0)), (5, (i64 ((posW S o.frm : Nat) : Int))), (83, (i64 o.amount)), (87, (Value.slice A S.length c)), (88, (i64 ((posW S o.frm : Nat) : Int)))] (by kernel_rfl) rfl (by kernel_rfl) ?_
 refine Dr.take (i := 7) (v := (Value.pointer (some ⟨gb, (posW S o.frm) * 2, none⟩))) (by kernel_rfl) (by kernel_rfl) (fun wz hS => Runs.ixSliceE (k := IntKind.i64) (t := 28) (len := S.length) (cap := c) (s := 2) (off' := (posW S o.frm) * 2) (i := ((posW S o.frm : Nat) : Int)) hA (by kernel_rfl) (by kernel_rfl) (by omega) (by omega) (by omega)) (d := (some 89)) (by kernel_rfl) rfl ?_
 refine Dr.takes (fuel' := 2) (is' := [8, 7, 6, 5, 4, 3, 2, 1, 0]) [8] [(0, (ptr r)), (3, (ptr b1)), (4, (i64 0)), (5, (i64 ((posW S o.frm : Nat) : Int))), (83, (i64 o.amount)), (90, (Value.pointer (some ⟨gb, (posW S o.frm) * 2 + 1, none⟩)))] (by kernel_rfl) rfl (by kernel_rfl) ?_
 refine Dr.take (i := 9) (v := (i64 a.amount)) (by kernel_rfl) (by kernel_rfl) (fun wz hS => Runs.load (t := 2) (a := ⟨gb, (posW S o.frm) * 2 + 1, none⟩) (by kernel_rfl) ((Hg.keep hS (fun h => h)).loads (loadC1 (by kernel_rfl) c1))) (d := (some 91)) (by kernel_rfl) rfl ?_
 refine Dr.takes (fuel' := 0) (is' := [10, 9, 8, 7, 6, 5, 4, 3, 2, 1, 0]) [10] [(0, (ptr r)), (3, (ptr b1)), (4, (i64 0)), (5, (i64 ((posW S o.frm : Nat) : Int))), (92, (Value.bool (decide (o.amount > a.amount))))] (by kernel_rfl) rfl (by kernel_rfl) ?_
 refine Dr.done (by kernel_rfl) ?_
 refine q_cond (o := .tmp 92) (b := (decide (o.amount > a.amount))) (by kernel_rfl) rfl (fun h16 => ?_) (fun h16 => ?_)
 ·rw [h16]
  have p17 : o.amount > a.amount := of_decide_eq_true h16
  refine qs ?_
  refine qg ?_
  refine og 1 [(0, (ptr r)), (3, (ptr b1)), (4, (i64 42)), (5, (i64 ((posW S o.frm : Nat) : Int)))] 1 ?_
  refine od ?_
  refine q_ret (by kernel_rfl) ?_
  refine ⟨(i64 42), retv_tmp rfl rfl, ?_⟩
  have e1 : actE S o = 42 := by unfold actE; rw [if_neg (by omega), hg]; simp only []; rw [if_neg (by omega), if_pos (by omega)]
  have e2 : actS S o = S := act_refused (by rw [e1]; decide)
  rw [e1, e2]
  exact ⟨A, c, rfl, K0.mono fun i _ h => .inr (by rw [hA]; exact congrArg some (Eq.symm h)), Hr, hO, fun i h => .inl h⟩
 ·rw [h16]
  have p18 : ¬ (o.amount > a.amount) := of_decide_eq_false h16
  refine q_skip (by kernel_rfl) ?_
  refine qs ?_
  refine qs ?_
  refine qg ?_
  refine og 1 [(0, (ptr r)), (3, (ptr b1)), (4, (i64 0)), (5, (i64 ((posW S o.frm : Nat) : Int))), (93, (ptr b1))] 1 ?_
  refine Ops.go (v := (i64 o.kind)) (by kernel_rfl) (Runs.load (t := 3) (a := ⟨b1, 0, none⟩) (by kernel_rfl) (H4.loads (by kernel_rfl))) (d := (some 94)) (by kernel_rfl) rfl ?_
  refine og 1 [(0, (ptr r)), (3, (ptr b1)), (4, (i64 0)), (5, (i64 ((posW S o.frm : Nat) : Int))), (95, (Value.bool (o.kind == 4)))] 3 ?_
  refine od ?_
  have h19 : (o.kind == 4) = true := beq_iff_eq.2 (by omega)
  rw [h19]
  refine q_then (o := .tmp 95) (by kernel_rfl) rfl ?_
  refine qs ?_
  refine qg ?_
  refine og 2 [(0, (ptr r)), (3, (ptr b1)), (4, (i64 0)), (5, (i64 ((posW S o.frm : Nat) : Int))), (97, (ptr r)), (98, (Value.pointer (some ⟨b1, 2, none⟩)))] 2 ?_
  refine Ops.go (v := (Value.string (str o.to))) (by kernel_rfl) (Runs.load (t := 9) (a := ⟨b1, 2, none⟩) (by kernel_rfl) (H4.loads (by kernel_rfl))) (d := (some 99)) (by kernel_rfl) rfl ?_
  refine Ops.call (by kernel_rfl) (d := (some 100)) (by kernel_rfl) (Rfind_calls _ r A c S B d K o.to Hr (OwnT.rd hO) (OwnT.rd hP)) ?_
  rintro _ w21 ⟨rfl, K20⟩
  refine ⟨_, _, rfl, rfl, ?_⟩
  replace K0 := K0.trans K20 (U := (fun i => i = gb)) (fun i h1 h2 => h2) (fun i h1 h2 => by exact h2.elim)
  replace Hr := Hr.keep K20 (fun h => h)
  replace Hg := Hg.keep K20 (fun h => h)
  replace H4 := H4.keep K20 (fun h => h)
  replace hO := own_keep0 hO K20
  replace hP := own_keep0 hP K20
  clear K20
  refine og 5 [(0, (ptr r)), (3, (ptr b1)), (4, (i64 0)), (5, (i64 ((posW S o.frm : Nat) : Int))), (8, (i64 ((posW S o.to : Nat) : Int))), (9, (Value.bool (hasW S o.to)))] 9 ?_
  refine od ?_
  refine qs ?_
  refine qs ?_
  refine qg ?_
  refine og 2 [(0, (ptr r)), (3, (ptr b1)), (4, (i64 0)), (5, (i64 ((posW S o.frm : Nat) : Int))), (8, (i64 ((posW S o.to : Nat) : Int))), (104, (Value.bool (!(hasW S o.to))))] 2 ?_
  refine od ?_
  have h22 : (!(hasW S o.to)) = true := by rw [show (hasW S o.to) = false from hft]; rfl
  rw [h22]
  refine q_then (o := .tmp 104) (by kernel_rfl) rfl ?_
  refine qs ?_
  refine qg ?_
  refine og 1 [(0, (ptr r)), (3, (ptr b1)), (4, (i64 40)), (5, (i64 ((posW S o.frm : Nat) : Int))), (8, (i64 ((posW S o.to : Nat) : Int)))] 1 ?_
  refine od ?_
  refine q_ret (by kernel_rfl) ?_
  refine ⟨(i64 40), retv_tmp rfl rfl, ?_⟩
  have e1 : actE S o = 40 := by unfold actE; rw [if_neg (by omega), hg]; simp only []; rw [if_neg (by omega), if_neg (by omega), if_pos hk4, ht]
  have e2 : actS S o = S := act_refused (by rw [e1]; decide)
  rw [e1, e2]
  exact ⟨A, c, rfl, K0.mono fun i _ h => .inr (by rw [hA]; exact congrArg some (Eq.symm h)), Hr, hO, fun i h => .inl h⟩

set_option maxHeartbeats 2000000 in
theorem Ract_four (w : World) (base r : Nat) (A : Option Addr) (c : Nat) (S : List RowM) (B : Option Addr) (d : Nat) (K : List KeptM) (o : Opm) (Hr : Has w r (rowL [.slice A S.length c, .slice B K.length d] 45)) (hO : OwnT w base 47 2 RowM.cells (.slice A S.length c) S) (hP : OwnT w base 90 10 kref (.slice B K.length d) K) (hne : ∀ i, (Value.slice A S.length c).ownBlock = some i → i ≠ r) (hne2 : ∀ i, (Value.slice B K.length d).ownBlock = some i → i ≠ r) (hnn : ∀ i, (Value.slice A S.length c).ownBlock = some i → (Value.slice B K.length d).ownBlock = some i → False) (hS : Led S) (hbw : base ≤ w.heap.size) (hk : 1 ≤ o.kind ∧ o.kind ≤ 4) (hr : -9223372036854775808 ≤ o.amount ∧ o.amount ≤ 9223372036854775807) (ha : o.kind ≠ 1 → 1 ≤ o.amount) (h4 : o.kind = 4 → o.frm ≠ o.to) (hSl : S.length ≤ 1000) (hk4 : o.kind = 4) (a : RowM) (hg : getW S o.frm = some a) (b : RowM) (ht : getW S o.to = some b) : Calls Tryz.prog 42 ⟨[(ptr r), (agg [(i64 o.kind), (Value.string (str o.frm)), (Value.string (str o.to)), (i64 o.amount), (Value.string (str o.key)), (i64 o.slot), (i64 o.shard)])]⟩ w (fun e w' => ∃ A' c', e = .returned (i64 (actE S o)) ∧ Keeps (fun i => i = r ∨ (Value.slice A S.length c).ownBlock = some i) w w' ∧ Has w' r (rowL [.slice A' (actS S o).length c', .slice B K.length d] 45) ∧ OwnT w' base 47 2 RowM.cells (.slice A' (actS S o).length c') (actS S o) ∧ (∀ i, (Value.slice A' (actS S o).length c').ownBlock = some i → (Value.slice A S.length c).ownBlock = some i ∨ w.heap.size ≤ i)) := by
 have hR := OwnT.rd hO
 have hQ := OwnT.rd hP
 have Hrl := Hr.lt
 have hcap := RdT.len RowM.two (by decide) hR
 have hcapk := RdT.len kref10 (by decide) hQ
 unfold maxLen at hcap hcapk
 have hfs := findw_some hS hg
 have hf2 := hfs.2
 have hfl := (List.getElem?_eq_some_iff.1 hf2).1
 have hao := hS.ok a (getW_some hg).1
 have hal := hao.lo
 have hah := hao.hi
 have hnm := (getW_some hg).2
 have hfst := findw_some hS ht
 have hft2 := hfst.2
 have hflt := (List.getElem?_eq_some_iff.1 hft2).1
 have haot := hS.ok b (getW_some ht).1
 have halt := haot.lo
 have haht := haot.hi
 have hnmt := (getW_some ht).2
 have hpq : posW S o.frm ≠ posW S o.to := fun q => by rw [q, hft2] at hf2; injection hf2 with q2; exact h4 hk4 (by rw [← hnm, ← hnmt, q2])
 obtain ⟨gb, cur, hA, hgb, Hg, hcl, hclt, hca, hcat, hput, hput2⟩ := OwnT.open2 RowM.two (by decide) hf2 hft2 hpq hO
 have d1 : cur[posW S o.to * 2 + 1]? = some (i64 b.amount) := hcat 1 _ rfl
 have c1 : cur[posW S o.frm * 2 + 1]? = some (i64 a.amount) := hca 1 _ rfl
 have hgr : gb ≠ r := hne gb (by rw [hA]; rfl)
 have hgk : ∀ i, (Value.slice B K.length d).ownBlock = some i → i ≠ gb := fun i hi q => by subst q; exact hnn i (by rw [hA]; rfl) hi
 have Hgl := Hg.lt
 have K0 : Keeps (fun i => i = gb) w w := (Keeps.refl w).mono (fun _ _ h => h.elim)
 refine q_calls Tryz.func42 (by kernel_rfl) (by kernel_rfl) ?_
 refine qs ?_
 refine qg ?_
 refine Ops.new (o := rowL [(i64 o.kind), (Value.string (str o.frm)), (Value.string (str o.to)), (i64 o.amount), (Value.string (str o.key)), (i64 o.slot), (i64 o.shard)] 24) (V := fun b => (ptr b)) (by kernel_rfl) (d := (some 3)) (by kernel_rfl) (fun b => rfl) (fun b1 w2 hb3 H4 K5 hs6 => ?_)
 have lb1r : r < b1 := by have := Hr.lt; omega
 have lb1gb : gb < b1 := by have := Hg.lt; omega
 have nb1 : w.heap.size ≤ b1 := by have := K0.size; omega
 have ob7 : ∀ i, ((Value.slice A S.length c)).ownBlock = some i → i < b1 := fun i hi => by have := (World.ownsRow.lt hO i hi).2; omega
 have ob8 : ∀ i, ((Value.slice B K.length d)).ownBlock = some i → i < b1 := fun i hi => by have := (World.ownsRow.lt hP i hi).2; omega
 replace K0 := K0.trans K5 (U := (fun i => i = gb)) (fun i h1 h2 => h2) (fun i h1 h2 => by exact h2.elim)
 replace Hr := Hr.keep K5 (fun h => h)
 replace Hg := Hg.keep K5 (fun h => h)
 replace hO := own_keep0 hO K5
 replace hP := own_keep0 hP K5
 clear K5 hs6
 refine og 1 [(0, (ptr r)), (3, (ptr b1)), (4, (i64 0))] 2 ?_
 refine od ?_
 refine qs ?_
 refine qg ?_
 refine og 2 [(0, (ptr r)), (3, (ptr b1)), (4, (i64 0)), (11, (ptr r)), (12, (Value.pointer (some ⟨b1, 1, none⟩)))] 2 ?_
 refine Ops.go (v := (Value.string (str o.frm))) (by kernel_rfl) (Runs.load (t := 9) (a := ⟨b1, 1, none⟩) (by kernel_rfl) (H4.loads (by kernel_rfl))) (d := (some 13)) (by kernel_rfl) rfl ?_
 refine Ops.call (by kernel_rfl) (d := (some 14)) (by kernel_rfl) (Rfind_calls _ r A c S B d K o.frm Hr (OwnT.rd hO) (OwnT.rd hP)) ?_
 rintro _ w10 ⟨rfl, K9⟩
 refine ⟨_, _, rfl, rfl, ?_⟩
 replace K0 := K0.trans K9 (U := (fun i => i = gb)) (fun i h1 h2 => h2) (fun i h1 h2 => by exact h2.elim)
 replace Hr := Hr.keep K9 (fun h => h)
 replace Hg := Hg.keep K9 (fun h => h)
 replace H4 := H4.keep K9 (fun h => h)
 replace hO := own_keep0 hO K9
 replace hP := own_keep0 hP K9
 clear K9
 refine og 5 [(0, (ptr r)), (3, (ptr b1)), (4, (i64 0)), (5, (i64 ((posW S o.frm : Nat) : Int))), (6, (Value.bool (hasW S o.frm)))] 9 ?_
 refine od ?_
 refine qs ?_
 refine qs ?_
 refine qg ?_
 refine og 1 [(0, (ptr r)), (3, (ptr b1)), (4, (i64 0)), (5, (i64 ((posW S o.frm : Nat) : Int))), (6, (Value.bool (hasW S o.frm))), (17, (ptr b1))] 1 ?_
 refine Ops.go (v := (i64 o.kind)) (by kernel_rfl) (Runs.load (t := 3) (a := ⟨b1, 0, none⟩) (by kernel_rfl) (H4.loads (by kernel_rfl))) (d := (some 18)) (by kernel_rfl) rfl ?_
 refine og 1 [(0, (ptr r)), (3, (ptr b1)), (4, (i64 0)), (5, (i64 ((posW S o.frm : Nat) : Int))), (6, (Value.bool (hasW S o.frm))), (19, (Value.bool (o.kind == 1)))] 3 ?_
 refine od ?_
 have h11 : (o.kind == 1) = false := beq_eq_false_iff_ne.2 (by omega)
 rw [h11]
 refine q_else (o := .tmp 19) (by kernel_rfl) rfl ?_
 refine q_skip (by kernel_rfl) ?_
 refine qs ?_
 refine qs ?_
 refine qg ?_
 refine og 2 [(0, (ptr r)), (3, (ptr b1)), (4, (i64 0)), (5, (i64 ((posW S o.frm : Nat) : Int))), (48, (Value.bool (!(hasW S o.frm))))] 2 ?_
 refine od ?_
 have h12 : (!(hasW S o.frm)) = false := by rw [show (hasW S o.frm) = true from hfs.1]; rfl
 rw [h12]
 refine q_else (o := .tmp 48) (by kernel_rfl) rfl ?_
 refine q_skip (by kernel_rfl) ?_
 refine qs ?_
 refine qs ?_
 refine qg ?_
 refine og 1 [(0, (ptr r)), (3, (ptr b1)), (4, (i64 0)), (5, (i64 ((posW S o.frm : Nat) : Int))), (49, (ptr b1))] 1 ?_
 refine Ops.go (v := (i64 o.kind)) (by kernel_rfl) (Runs.load (t := 3) (a := ⟨b1, 0, none⟩) (by kernel_rfl) (H4.loads (by kernel_rfl))) (d := (some 50)) (by kernel_rfl) rfl ?_
 refine og 1 [(0, (ptr r)), (3, (ptr b1)), (4, (i64 0)), (5, (i64 ((posW S o.frm : Nat) : Int))), (51, (Value.bool (o.kind == 2)))] 3 ?_
 refine od ?_
 have h13 : (o.kind == 2) = false := beq_eq_false_iff_ne.2 (by omega)
 rw [h13]
 refine q_else (o := .tmp 51) (by kernel_rfl) rfl ?_
 refine q_skip (by kernel_rfl) ?_
 refine qs ?_
 refine qs ?_
 refine q_draw (fun wz => Keeps none_ w10 wz) 11 (by kernel_rfl) (by kernel_rfl) (by kernel_rfl) (fun w14 K15 _ _ => ⟨K15, ?_⟩)
 replace K0 := K0.trans K15 (U := (fun i => i = gb)) (fun i h1 h2 => h2) (fun i h1 h2 => by exact h2.elim)
 replace Hr := Hr.keep K15 (fun h => h)
 replace Hg := Hg.keep K15 (fun h => h)
 replace H4 := H4.keep K15 (fun h => h)
 replace hO := own_keep0 hO K15
 replace hP := own_keep0 hP K15
 refine Dr.strong (S' := (fun wz => Keeps none_ w14 wz)) (Keeps.refl w14) (fun wz hx => K15.trans hx (fun i _ h => h) (fun _ _ h => h)) ?_
 clear K15
 refine Dr.takes (fuel' := 10) (is' := [0]) [0] [(0, (ptr r)), (3, (ptr b1)), (4, (i64 0)), (5, (i64 ((posW S o.frm : Nat) : Int))), (82, (Value.pointer (some ⟨b1, 3, none⟩)))] (by kernel_rfl) rfl (by kernel_rfl) ?_
 refine Dr.take (i := 1) (v := (i64 o.amount)) (by kernel_rfl) (by kernel_rfl) (fun wz hS => Runs.load (t := 2) (a := ⟨b1, 3, none⟩) (by kernel_rfl) ((H4.keep hS (fun h => h)).loads (by kernel_rfl))) (d := (some 83)) (by kernel_rfl) rfl ?_
 refine Dr.takes (fuel' := 6) (is' := [4, 3, 2, 1, 0]) [2, 3, 4] [(0, (ptr r)), (3, (ptr b1)), (4, (i64 0)), (5, (i64 ((posW S o.frm : Nat) : Int))), (83, (i64 o.amount)), (86, (ptr r))] (by kernel_rfl) rfl (by kernel_rfl) ?_
 refine Dr.take (i := 5) (v := (Value.slice A S.length c)) (by kernel_rfl) (by kernel_rfl) (fun wz hS => Runs.load (t := 28) (a := ⟨r, 0, none⟩) (by kernel_rfl) ((Hr.keep hS (fun h => h)).loads (by kernel_rfl))) (d := (some 87)) (by kernel_rfl) rfl ?_
 refine Dr.takes (fuel' := 4) (is' := [6, 5, 4, 3, 2, 1, 0]) [6] [(0, (ptr r)), (3, (ptr b1)), (4, (i64 0)), (5, (i64 ((posW S o.frm : Nat) : Int))), (83, (i64 o.amount)), (87, (Value.slice A S.length c)), (88, (i64 ((posW S o.frm : Nat) : Int)))] (by kernel_rfl) rfl (by kernel_rfl) ?_
 refine Dr.take (i := 7) (v := (Value.pointer (some ⟨gb, (posW S o.frm) * 2, none⟩))) (by kernel_rfl) (by kernel_rfl) (fun wz hS => Runs.ixSliceE (k := IntKind.i64) (t := 28) (len := S.length) (cap := c) (s := 2) (off' := (posW S o.frm) * 2) (i := ((posW S o.frm : Nat) : Int)) hA (by kernel_rfl) (by kernel_rfl) (by omega) (by omega) (by omega)) (d := (some 89)) (by kernel_rfl) rfl ?_
 refine Dr.takes (fuel' := 2) (is' := [8, 7, 6, 5, 4, 3, 2, 1, 0]) [8] [(0, (ptr r)), (3, (ptr b1)), (4, (i64 0)), (5, (i64 ((posW S o.frm : Nat) : Int))), (83, (i64 o.amount)), (90, (Value.pointer (some ⟨gb, (posW S o.frm) * 2 + 1, none⟩)))] (by kernel_rfl) rfl (by kernel_rfl) ?_
 refine Dr.take (i := 9) (v := (i64 a.amount)) (by kernel_rfl) (by kernel_rfl) (fun wz hS => Runs.load (t := 2) (a := ⟨gb, (posW S o.frm) * 2 + 1, none⟩) (by kernel_rfl) ((Hg.keep hS (fun h => h)).loads (loadC1 (by kernel_rfl) c1))) (d := (some 91)) (by kernel_rfl) rfl ?_
 refine Dr.takes (fuel' := 0) (is' := [10, 9, 8, 7, 6, 5, 4, 3, 2, 1, 0]) [10] [(0, (ptr r)), (3, (ptr b1)), (4, (i64 0)), (5, (i64 ((posW S o.frm : Nat) : Int))), (92, (Value.bool (decide (o.amount > a.amount))))] (by kernel_rfl) rfl (by kernel_rfl) ?_
 refine Dr.done (by kernel_rfl) ?_
 refine q_cond (o := .tmp 92) (b := (decide (o.amount > a.amount))) (by kernel_rfl) rfl (fun h16 => ?_) (fun h16 => ?_)
 ·rw [h16]
  have p17 : o.amount > a.amount := of_decide_eq_true h16
  refine qs ?_
  refine qg ?_
  refine og 1 [(0, (ptr r)), (3, (ptr b1)), (4, (i64 42)), (5, (i64 ((posW S o.frm : Nat) : Int)))] 1 ?_
  refine od ?_
  refine q_ret (by kernel_rfl) ?_
  refine ⟨(i64 42), retv_tmp rfl rfl, ?_⟩
  have e1 : actE S o = 42 := by unfold actE; rw [if_neg (by omega), hg]; simp only []; rw [if_neg (by omega), if_pos (by omega)]
  have e2 : actS S o = S := act_refused (by rw [e1]; decide)
  rw [e1, e2]
  exact ⟨A, c, rfl, K0.mono fun i _ h => .inr (by rw [hA]; exact congrArg some (Eq.symm h)), Hr, hO, fun i h => .inl h⟩
 ·rw [h16]
  have p18 : ¬ (o.amount > a.amount) := of_decide_eq_false h16
  refine q_skip (by kernel_rfl) ?_
  refine qs ?_
  refine qs ?_
  refine qg ?_
  refine og 1 [(0, (ptr r)), (3, (ptr b1)), (4, (i64 0)), (5, (i64 ((posW S o.frm : Nat) : Int))), (93, (ptr b1))] 1 ?_
  refine Ops.go (v := (i64 o.kind)) (by kernel_rfl) (Runs.load (t := 3) (a := ⟨b1, 0, none⟩) (by kernel_rfl) (H4.loads (by kernel_rfl))) (d := (some 94)) (by kernel_rfl) rfl ?_
  refine og 1 [(0, (ptr r)), (3, (ptr b1)), (4, (i64 0)), (5, (i64 ((posW S o.frm : Nat) : Int))), (95, (Value.bool (o.kind == 4)))] 3 ?_
  refine od ?_
  have h19 : (o.kind == 4) = true := beq_iff_eq.2 (by omega)
  rw [h19]
  refine q_then (o := .tmp 95) (by kernel_rfl) rfl ?_
  refine qs ?_
  refine qg ?_
  refine og 2 [(0, (ptr r)), (3, (ptr b1)), (4, (i64 0)), (5, (i64 ((posW S o.frm : Nat) : Int))), (97, (ptr r)), (98, (Value.pointer (some ⟨b1, 2, none⟩)))] 2 ?_
  refine Ops.go (v := (Value.string (str o.to))) (by kernel_rfl) (Runs.load (t := 9) (a := ⟨b1, 2, none⟩) (by kernel_rfl) (H4.loads (by kernel_rfl))) (d := (some 99)) (by kernel_rfl) rfl ?_
  refine Ops.call (by kernel_rfl) (d := (some 100)) (by kernel_rfl) (Rfind_calls _ r A c S B d K o.to Hr (OwnT.rd hO) (OwnT.rd hP)) ?_
  rintro _ w21 ⟨rfl, K20⟩
  refine ⟨_, _, rfl, rfl, ?_⟩
  replace K0 := K0.trans K20 (U := (fun i => i = gb)) (fun i h1 h2 => h2) (fun i h1 h2 => by exact h2.elim)
  replace Hr := Hr.keep K20 (fun h => h)
  replace Hg := Hg.keep K20 (fun h => h)
  replace H4 := H4.keep K20 (fun h => h)
  replace hO := own_keep0 hO K20
  replace hP := own_keep0 hP K20
  clear K20
  refine og 5 [(0, (ptr r)), (3, (ptr b1)), (4, (i64 0)), (5, (i64 ((posW S o.frm : Nat) : Int))), (8, (i64 ((posW S o.to : Nat) : Int))), (9, (Value.bool (hasW S o.to)))] 9 ?_
  refine od ?_
  refine qs ?_
  refine qs ?_
  refine qg ?_
  refine og 2 [(0, (ptr r)), (3, (ptr b1)), (4, (i64 0)), (5, (i64 ((posW S o.frm : Nat) : Int))), (8, (i64 ((posW S o.to : Nat) : Int))), (104, (Value.bool (!(hasW S o.to))))] 2 ?_
  refine od ?_
  have h22 : (!(hasW S o.to)) = false := by rw [show (hasW S o.to) = true from hfst.1]; rfl
  rw [h22]
  refine q_else (o := .tmp 104) (by kernel_rfl) rfl ?_
  refine q_skip (by kernel_rfl) ?_
  refine qs ?_
  refine qs ?_
  refine q_draw (fun wz => Keeps none_ w21 wz) 12 (by kernel_rfl) (by kernel_rfl) (by kernel_rfl) (fun w23 K24 _ _ => ⟨K24, ?_⟩)
  replace K0 := K0.trans K24 (U := (fun i => i = gb)) (fun i h1 h2 => h2) (fun i h1 h2 => by exact h2.elim)
  replace Hr := Hr.keep K24 (fun h => h)
  replace Hg := Hg.keep K24 (fun h => h)
  replace H4 := H4.keep K24 (fun h => h)
  replace hO := own_keep0 hO K24
  replace hP := own_keep0 hP K24
  refine Dr.strong (S' := (fun wz => Keeps none_ w23 wz)) (Keeps.refl w23) (fun wz hx => K24.trans hx (fun i _ h => h) (fun _ _ h => h)) ?_
  clear K24
  refine Dr.takes (fuel' := 11) (is' := [0]) [0] [(0, (ptr r)), (3, (ptr b1)), (4, (i64 0)), (5, (i64 ((posW S o.frm : Nat) : Int))), (8, (i64 ((posW S o.to : Nat) : Int))), (105, (Value.pointer (some ⟨b1, 3, none⟩)))] (by kernel_rfl) rfl (by kernel_rfl) ?_
  refine Dr.take (i := 1) (v := (i64 o.amount)) (by kernel_rfl) (by kernel_rfl) (fun wz hS => Runs.load (t := 2) (a := ⟨b1, 3, none⟩) (by kernel_rfl) ((H4.keep hS (fun h => h)).loads (by kernel_rfl))) (d := (some 106)) (by kernel_rfl) rfl ?_
  refine Dr.takes (fuel' := 7) (is' := [4, 3, 2, 1, 0]) [2, 3, 4] [(0, (ptr r)), (3, (ptr b1)), (4, (i64 0)), (5, (i64 ((posW S o.frm : Nat) : Int))), (8, (i64 ((posW S o.to : Nat) : Int))), (106, (i64 o.amount)), (109, (ptr r))] (by kernel_rfl) rfl (by kernel_rfl) ?_
  refine Dr.take (i := 5) (v := (Value.slice A S.length c)) (by kernel_rfl) (by kernel_rfl) (fun wz hS => Runs.load (t := 28) (a := ⟨r, 0, none⟩) (by kernel_rfl) ((Hr.keep hS (fun h => h)).loads (by kernel_rfl))) (d := (some 110)) (by kernel_rfl) rfl ?_
  refine Dr.takes (fuel' := 5) (is' := [6, 5, 4, 3, 2, 1, 0]) [6] [(0, (ptr r)), (3, (ptr b1)), (4, (i64 0)), (5, (i64 ((posW S o.frm : Nat) : Int))), (8, (i64 ((posW S o.to : Nat) : Int))), (106, (i64 o.amount)), (110, (Value.slice A S.length c)), (111, (i64 ((posW S o.to : Nat) : Int)))] (by kernel_rfl) rfl (by kernel_rfl) ?_
  refine Dr.take (i := 7) (v := (Value.pointer (some ⟨gb, (posW S o.to) * 2, none⟩))) (by kernel_rfl) (by kernel_rfl) (fun wz hS => Runs.ixSliceE (k := IntKind.i64) (t := 28) (len := S.length) (cap := c) (s := 2) (off' := (posW S o.to) * 2) (i := ((posW S o.to : Nat) : Int)) hA (by kernel_rfl) (by kernel_rfl) (by omega) (by omega) (by omega)) (d := (some 112)) (by kernel_rfl) rfl ?_
  refine Dr.takes (fuel' := 3) (is' := [8, 7, 6, 5, 4, 3, 2, 1, 0]) [8] [(0, (ptr r)), (3, (ptr b1)), (4, (i64 0)), (5, (i64 ((posW S o.frm : Nat) : Int))), (8, (i64 ((posW S o.to : Nat) : Int))), (106, (i64 o.amount)), (113, (Value.pointer (some ⟨gb, (posW S o.to) * 2 + 1, none⟩)))] (by kernel_rfl) rfl (by kernel_rfl) ?_
  refine Dr.take (i := 9) (v := (i64 b.amount)) (by kernel_rfl) (by kernel_rfl) (fun wz hS => Runs.load (t := 2) (a := ⟨gb, (posW S o.to) * 2 + 1, none⟩) (by kernel_rfl) ((Hg.keep hS (fun h => h)).loads (loadC1 (by kernel_rfl) d1))) (d := (some 114)) (by kernel_rfl) rfl ?_
  refine Dr.takes (fuel' := 1) (is' := [10, 9, 8, 7, 6, 5, 4, 3, 2, 1, 0]) [10] [(0, (ptr r)), (3, (ptr b1)), (4, (i64 0)), (5, (i64 ((posW S o.frm : Nat) : Int))), (8, (i64 ((posW S o.to : Nat) : Int))), (106, (i64 o.amount)), (115, (i64 (IntKind.i64.wrap (9223372036854775807 - b.amount))))] (by kernel_rfl) rfl (by kernel_rfl) ?_
  have e25 : IntKind.i64.wrap (9223372036854775807 - b.amount) = 9223372036854775807 - b.amount := wrap_i64 (by omega) (by omega)
  rw [e25]
  refine Dr.takes (fuel' := 0) (is' := [11, 10, 9, 8, 7, 6, 5, 4, 3, 2, 1, 0]) [11] [(0, (ptr r)), (3, (ptr b1)), (4, (i64 0)), (5, (i64 ((posW S o.frm : Nat) : Int))), (8, (i64 ((posW S o.to : Nat) : Int))), (116, (Value.bool (decide (o.amount > 9223372036854775807 - b.amount))))] (by kernel_rfl) rfl (by kernel_rfl) ?_
  refine Dr.done (by kernel_rfl) ?_
  refine q_cond (o := .tmp 116) (b := (decide (o.amount > 9223372036854775807 - b.amount))) (by kernel_rfl) rfl (fun h26 => ?_) (fun h26 => ?_)
  ·rw [h26]
   have p27 : o.amount > 9223372036854775807 - b.amount := of_decide_eq_true h26
   refine qs ?_
   refine qg ?_
   refine og 1 [(0, (ptr r)), (3, (ptr b1)), (4, (i64 43)), (5, (i64 ((posW S o.frm : Nat) : Int))), (8, (i64 ((posW S o.to : Nat) : Int)))] 1 ?_
   refine od ?_
   refine q_ret (by kernel_rfl) ?_
   refine ⟨(i64 43), retv_tmp rfl rfl, ?_⟩
   have e1 : actE S o = 43 := by unfold actE; rw [if_neg (by omega), hg]; simp only []; rw [if_neg (by omega), if_neg (by omega), if_pos hk4, ht]; simp only []; rw [if_pos (by omega)]
   have e2 : actS S o = S := act_refused (by rw [e1]; decide)
   rw [e1, e2]
   exact ⟨A, c, rfl, K0.mono fun i _ h => .inr (by rw [hA]; exact congrArg some (Eq.symm h)), Hr, hO, fun i h => .inl h⟩
  ·rw [h26]
   have p28 : ¬ (o.amount > 9223372036854775807 - b.amount) := of_decide_eq_false h26
   refine q_skip (by kernel_rfl) ?_
   refine q_draw (fun wz => Keeps (fun i => i = gb) w23 wz) 19 (by kernel_rfl) (by kernel_rfl) (by kernel_rfl) (fun w29 K30 _ _ => ⟨(K30.mono (fun _ _ h => h.elim)), ?_⟩)
   replace K0 := K0.trans K30 (U := (fun i => i = gb)) (fun i h1 h2 => h2) (fun i h1 h2 => by exact h2.elim)
   replace Hr := Hr.keep K30 (fun h => h)
   replace Hg := Hg.keep K30 (fun h => h)
   replace H4 := H4.keep K30 (fun h => h)
   replace hO := own_keep0 hO K30
   replace hP := own_keep0 hP K30
   refine Dr.strong (S' := (fun wz => Keeps (fun i => i = gb) w29 wz)) ((Keeps.refl w29).mono (fun _ _ h => h.elim)) (fun wz hx => K30.trans hx (fun i _ h => h.elim) (fun _ _ h => h)) ?_
   clear K30
   refine Dr.takes (fuel' := 16) (is' := [2, 1, 0]) [0, 1, 2] [(0, (ptr r)), (3, (ptr b1)), (4, (i64 0)), (5, (i64 ((posW S o.frm : Nat) : Int))), (8, (i64 ((posW S o.to : Nat) : Int))), (119, (ptr r))] (by kernel_rfl) rfl (by kernel_rfl) ?_
   refine Dr.take (i := 3) (v := (Value.slice A S.length c)) (by kernel_rfl) (by kernel_rfl) (fun wz hS => Runs.load (t := 28) (a := ⟨r, 0, none⟩) (by kernel_rfl) ((Hr.keep hS (by intro h; change r = gb at h; omega)).loads (by kernel_rfl))) (d := (some 120)) (by kernel_rfl) rfl ?_
   refine Dr.takes (fuel' := 11) (is' := [7, 6, 5, 4, 3, 2, 1, 0]) [4, 5, 6, 7] [(0, (ptr r)), (3, (ptr b1)), (4, (i64 0)), (5, (i64 ((posW S o.frm : Nat) : Int))), (8, (i64 ((posW S o.to : Nat) : Int))), (120, (Value.slice A S.length c)), (121, (i64 ((posW S o.to : Nat) : Int))), (124, (ptr r))] (by kernel_rfl) rfl (by kernel_rfl) ?_
   refine Dr.take (i := 8) (v := (Value.slice A S.length c)) (by kernel_rfl) (by kernel_rfl) (fun wz hS => Runs.load (t := 28) (a := ⟨r, 0, none⟩) (by kernel_rfl) ((Hr.keep hS (by intro h; change r = gb at h; omega)).loads (by kernel_rfl))) (d := (some 125)) (by kernel_rfl) rfl ?_
   refine Dr.takes (fuel' := 9) (is' := [9, 8, 7, 6, 5, 4, 3, 2, 1, 0]) [9] [(0, (ptr r)), (3, (ptr b1)), (4, (i64 0)), (5, (i64 ((posW S o.frm : Nat) : Int))), (120, (Value.slice A S.length c)), (121, (i64 ((posW S o.to : Nat) : Int))), (125, (Value.slice A S.length c)), (126, (i64 ((posW S o.to : Nat) : Int)))] (by kernel_rfl) rfl (by kernel_rfl) ?_
   refine Dr.take (i := 10) (v := (Value.pointer (some ⟨gb, (posW S o.to) * 2, none⟩))) (by kernel_rfl) (by kernel_rfl) (fun wz hS => Runs.ixSliceE (k := IntKind.i64) (t := 28) (len := S.length) (cap := c) (s := 2) (off' := (posW S o.to) * 2) (i := ((posW S o.to : Nat) : Int)) hA (by kernel_rfl) (by kernel_rfl) (by omega) (by omega) (by omega)) (d := (some 127)) (by kernel_rfl) rfl ?_
   refine Dr.takes (fuel' := 6) (is' := [13, 11, 10, 9, 8, 7, 6, 5, 4, 3, 2, 1, 0]) [11, 13] [(0, (ptr r)), (3, (ptr b1)), (4, (i64 0)), (5, (i64 ((posW S o.frm : Nat) : Int))), (120, (Value.slice A S.length c)), (121, (i64 ((posW S o.to : Nat) : Int))), (128, (Value.pointer (some ⟨gb, (posW S o.to) * 2 + 1, none⟩))), (130, (Value.pointer (some ⟨b1, 3, none⟩)))] (by kernel_rfl) rfl (by kernel_rfl) ?_
   refine Dr.take (i := 14) (v := (i64 o.amount)) (by kernel_rfl) (by kernel_rfl) (fun wz hS => Runs.load (t := 2) (a := ⟨b1, 3, none⟩) (by kernel_rfl) ((H4.keep hS (by intro h; change b1 = gb at h; omega)).loads (by kernel_rfl))) (d := (some 131)) (by kernel_rfl) rfl ?_
   refine Dr.go (i := 12) (v := (i64 b.amount)) (by kernel_rfl) (by kernel_rfl) (Runs.load (t := 2) (a := ⟨gb, (posW S o.to) * 2 + 1, none⟩) (by kernel_rfl) (Hg.loads (loadC1 (by kernel_rfl) d1))) (d := (some 129)) (by kernel_rfl) rfl ((Keeps.refl _).mono (fun _ _ h => h.elim)) ?_
   refine Dr.takes (fuel' := 3) (is' := [15, 12, 14, 13, 11, 10, 9, 8, 7, 6, 5, 4, 3, 2, 1, 0]) [15] [(0, (ptr r)), (3, (ptr b1)), (4, (i64 0)), (5, (i64 ((posW S o.frm : Nat) : Int))), (120, (Value.slice A S.length c)), (121, (i64 ((posW S o.to : Nat) : Int))), (132, (i64 (IntKind.i64.wrap (b.amount + o.amount))))] (by kernel_rfl) rfl (by kernel_rfl) ?_
   have e31 : IntKind.i64.wrap (b.amount + o.amount) = b.amount + o.amount := wrap_i64 (by omega) (by omega)
   rw [e31]
   refine Dr.take (i := 16) (v := (Value.pointer (some ⟨gb, (posW S o.to) * 2, none⟩))) (by kernel_rfl) (by kernel_rfl) (fun wz hS => Runs.ixSliceE (k := IntKind.i64) (t := 28) (len := S.length) (cap := c) (s := 2) (off' := (posW S o.to) * 2) (i := ((posW S o.to : Nat) : Int)) hA (by kernel_rfl) (by kernel_rfl) (by omega) (by omega) (by omega)) (d := (some 133)) (by kernel_rfl) rfl ?_
   refine Dr.takes (fuel' := 1) (is' := [17, 16, 15, 12, 14, 13, 11, 10, 9, 8, 7, 6, 5, 4, 3, 2, 1, 0]) [17] [(0, (ptr r)), (3, (ptr b1)), (4, (i64 0)), (5, (i64 ((posW S o.frm : Nat) : Int))), (132, (i64 (b.amount + o.amount))), (134, (Value.pointer (some ⟨gb, (posW S o.to) * 2 + 1, none⟩)))] (by kernel_rfl) rfl (by kernel_rfl) ?_
   refine Dr.put (i := 18) (t := 2) (b := gb) (off := (posW S o.to) * 2 + 1) (v := (i64 (b.amount + o.amount))) (ys := (cur.set ((posW S o.to) * 2 + 1) (i64 (b.amount + o.amount)))) (by kernel_rfl) (by kernel_rfl) (by kernel_rfl) Hg (storeC1 (by kernel_rfl) rfl (by first | omega | (simp only [List.length_set]; omega)) rfl) (d := none) (by kernel_rfl) rfl (fun w32 H33 K34 => ?_)
   clear Hg
   replace K0 := K0.trans K34 (U := (fun i => i = gb)) (fun i h1 h2 => h2) (fun i h1 h2 => by have h2 : i = gb := h2; show i = gb; omega)
   replace Hr := Hr.keep K34 (by intro h; change r = gb at h; omega)
   replace H4 := H4.keep K34 (by intro h; change b1 = gb at h; omega)
   clear hO
   replace hP := own_keep hP K34 (fun i hi hs => by have hs : i = gb := hs; have := hgk i hi; omega)
   refine ⟨K34, ?_⟩
   refine Dr.strong (S' := (fun wz => Keeps (fun i => i = gb) w32 wz)) ((Keeps.refl w32).mono (fun _ _ h => h.elim)) (fun wz hx => K34.trans hx (fun i _ h => by have h : i = gb := h; show i = gb; omega) (fun _ _ h => h)) ?_
   clear K34
   refine Dr.done (by kernel_rfl) ?_
   refine qs ?_
   refine q_draw (fun wz => Keeps (fun i => i = gb) w32 wz) 19 (by kernel_rfl) (by kernel_rfl) (by kernel_rfl) (fun w35 K36 _ _ => ⟨(K36.mono (fun _ _ h => h.elim)), ?_⟩)
   replace K0 := K0.trans K36 (U := (fun i => i = gb)) (fun i h1 h2 => h2) (fun i h1 h2 => by exact h2.elim)
   replace Hr := Hr.keep K36 (fun h => h)
   replace H33 := H33.keep K36 (fun h => h)
   replace H4 := H4.keep K36 (fun h => h)
   replace hP := own_keep0 hP K36
   refine Dr.strong (S' := (fun wz => Keeps (fun i => i = gb) w35 wz)) ((Keeps.refl w35).mono (fun _ _ h => h.elim)) (fun wz hx => K36.trans hx (fun i _ h => h.elim) (fun _ _ h => h)) ?_
   clear K36
   refine Dr.takes (fuel' := 16) (is' := [2, 1, 0]) [0, 1, 2] [(0, (ptr r)), (3, (ptr b1)), (4, (i64 0)), (5, (i64 ((posW S o.frm : Nat) : Int))), (137, (ptr r))] (by kernel_rfl) rfl (by kernel_rfl) ?_
   refine Dr.take (i := 3) (v := (Value.slice A S.length c)) (by kernel_rfl) (by kernel_rfl) (fun wz hS => Runs.load (t := 28) (a := ⟨r, 0, none⟩) (by kernel_rfl) ((Hr.keep hS (by intro h; change r = gb at h; omega)).loads (by kernel_rfl))) (d := (some 138)) (by kernel_rfl) rfl ?_
   refine Dr.takes (fuel' := 11) (is' := [7, 6, 5, 4, 3, 2, 1, 0]) [4, 5, 6, 7] [(3, (ptr b1)), (4, (i64 0)), (5, (i64 ((posW S o.frm : Nat) : Int))), (138, (Value.slice A S.length c)), (139, (i64 ((posW S o.frm : Nat) : Int))), (142, (ptr r))] (by kernel_rfl) rfl (by kernel_rfl) ?_
   refine Dr.take (i := 8) (v := (Value.slice A S.length c)) (by kernel_rfl) (by kernel_rfl) (fun wz hS => Runs.load (t := 28) (a := ⟨r, 0, none⟩) (by kernel_rfl) ((Hr.keep hS (by intro h; change r = gb at h; omega)).loads (by kernel_rfl))) (d := (some 143)) (by kernel_rfl) rfl ?_
   refine Dr.takes (fuel' := 9) (is' := [9, 8, 7, 6, 5, 4, 3, 2, 1, 0]) [9] [(3, (ptr b1)), (4, (i64 0)), (138, (Value.slice A S.length c)), (139, (i64 ((posW S o.frm : Nat) : Int))), (143, (Value.slice A S.length c)), (144, (i64 ((posW S o.frm : Nat) : Int)))] (by kernel_rfl) rfl (by kernel_rfl) ?_
   refine Dr.take (i := 10) (v := (Value.pointer (some ⟨gb, (posW S o.frm) * 2, none⟩))) (by kernel_rfl) (by kernel_rfl) (fun wz hS => Runs.ixSliceE (k := IntKind.i64) (t := 28) (len := S.length) (cap := c) (s := 2) (off' := (posW S o.frm) * 2) (i := ((posW S o.frm : Nat) : Int)) hA (by kernel_rfl) (by kernel_rfl) (by omega) (by omega) (by omega)) (d := (some 145)) (by kernel_rfl) rfl ?_
   refine Dr.takes (fuel' := 6) (is' := [13, 11, 10, 9, 8, 7, 6, 5, 4, 3, 2, 1, 0]) [11, 13] [(4, (i64 0)), (138, (Value.slice A S.length c)), (139, (i64 ((posW S o.frm : Nat) : Int))), (146, (Value.pointer (some ⟨gb, (posW S o.frm) * 2 + 1, none⟩))), (148, (Value.pointer (some ⟨b1, 3, none⟩)))] (by kernel_rfl) rfl (by kernel_rfl) ?_
   refine Dr.take (i := 14) (v := (i64 o.amount)) (by kernel_rfl) (by kernel_rfl) (fun wz hS => Runs.load (t := 2) (a := ⟨b1, 3, none⟩) (by kernel_rfl) ((H4.keep hS (by intro h; change b1 = gb at h; omega)).loads (by kernel_rfl))) (d := (some 149)) (by kernel_rfl) rfl ?_
   refine Dr.go (i := 12) (v := (i64 a.amount)) (by kernel_rfl) (by kernel_rfl) (Runs.load (t := 2) (a := ⟨gb, (posW S o.frm) * 2 + 1, none⟩) (by kernel_rfl) (H33.loads (loadC1 (by kernel_rfl) (by rw [List.getElem?_set_ne (by omega)]; exact c1)))) (d := (some 147)) (by kernel_rfl) rfl ((Keeps.refl _).mono (fun _ _ h => h.elim)) ?_
   refine Dr.takes (fuel' := 3) (is' := [15, 12, 14, 13, 11, 10, 9, 8, 7, 6, 5, 4, 3, 2, 1, 0]) [15] [(4, (i64 0)), (138, (Value.slice A S.length c)), (139, (i64 ((posW S o.frm : Nat) : Int))), (150, (i64 (IntKind.i64.wrap (a.amount - o.amount))))] (by kernel_rfl) rfl (by kernel_rfl) ?_
   have e37 : IntKind.i64.wrap (a.amount - o.amount) = a.amount - o.amount := wrap_i64 (by omega) (by omega)
   rw [e37]
   refine Dr.take (i := 16) (v := (Value.pointer (some ⟨gb, (posW S o.frm) * 2, none⟩))) (by kernel_rfl) (by kernel_rfl) (fun wz hS => Runs.ixSliceE (k := IntKind.i64) (t := 28) (len := S.length) (cap := c) (s := 2) (off' := (posW S o.frm) * 2) (i := ((posW S o.frm : Nat) : Int)) hA (by kernel_rfl) (by kernel_rfl) (by omega) (by omega) (by omega)) (d := (some 151)) (by kernel_rfl) rfl ?_
   refine Dr.takes (fuel' := 1) (is' := [17, 16, 15, 12, 14, 13, 11, 10, 9, 8, 7, 6, 5, 4, 3, 2, 1, 0]) [17] [(4, (i64 0)), (150, (i64 (a.amount - o.amount))), (152, (Value.pointer (some ⟨gb, (posW S o.frm) * 2 + 1, none⟩)))] (by kernel_rfl) rfl (by kernel_rfl) ?_
   refine Dr.put (i := 18) (t := 2) (b := gb) (off := (posW S o.frm) * 2 + 1) (v := (i64 (a.amount - o.amount))) (ys := ((cur.set ((posW S o.to) * 2 + 1) (i64 (b.amount + o.amount))).set ((posW S o.frm) * 2 + 1) (i64 (a.amount - o.amount)))) (by kernel_rfl) (by kernel_rfl) (by kernel_rfl) H33 (storeC1 (by kernel_rfl) rfl (by first | omega | (simp only [List.length_set]; omega)) rfl) (d := none) (by kernel_rfl) rfl (fun w38 H39 K40 => ?_)
   clear H33
   replace K0 := K0.trans K40 (U := (fun i => i = gb)) (fun i h1 h2 => h2) (fun i h1 h2 => by have h2 : i = gb := h2; show i = gb; omega)
   replace Hr := Hr.keep K40 (by intro h; change r = gb at h; omega)
   replace H4 := H4.keep K40 (by intro h; change b1 = gb at h; omega)
   replace hP := own_keep hP K40 (fun i hi hs => by have hs : i = gb := hs; have := hgk i hi; omega)
   refine ⟨K40, ?_⟩
   refine Dr.strong (S' := (fun wz => Keeps (fun i => i = gb) w38 wz)) ((Keeps.refl w38).mono (fun _ _ h => h.elim)) (fun wz hx => K40.trans hx (fun i _ h => by have h : i = gb := h; show i = gb; omega) (fun _ _ h => h)) ?_
   clear K40
   refine Dr.done (by kernel_rfl) ?_
   refine qs ?_
   refine qg ?_
   refine og 1 [(4, (i64 0))] 1 ?_
   refine od ?_
   refine q_ret (by kernel_rfl) ?_
   refine ⟨(i64 0), retv_tmp rfl rfl, ?_⟩
   have e1 : actE S o = 0 := by unfold actE; rw [if_neg (by omega), hg]; simp only []; rw [if_neg (by omega), if_neg (by omega), if_pos hk4, ht]; simp only []; rw [if_neg (by omega)]
   have e2 : actS S o = (S.set (posW S o.to) ⟨o.to, b.amount + o.amount⟩).set (posW S o.frm) ⟨o.frm, a.amount - o.amount⟩ := by unfold actS; rw [if_neg (by omega), hg]; simp only []; rw [if_neg (by omega), if_neg (by omega), if_pos hk4, ht]; simp only []; rw [if_neg (by omega)]; exact setw2_at hS hg ht (h4 hk4) _ _
   have hq := hput2 1 1 (i64 (b.amount + o.amount)) (i64 (a.amount - o.amount)) ⟨o.to, b.amount + o.amount⟩ ⟨o.frm, a.amount - o.amount⟩ (by decide) (by decide) (by rw [← hnmt]; rfl) (by rw [← hnm]; rfl) _ H39
   rw [e1, e2, List.length_set, List.length_set]
   exact ⟨A, c, rfl, K0.mono fun i _ h => .inr (by rw [hA]; exact congrArg some (Eq.symm h)), Hr, hq, fun i h => .inl h⟩

theorem Ract_calls (w : World) (base r : Nat) (A : Option Addr) (c : Nat) (S : List RowM) (B : Option Addr) (d : Nat) (K : List KeptM) (o : Opm) (Hr : Has w r (rowL [.slice A S.length c, .slice B K.length d] 45)) (hO : OwnT w base 47 2 RowM.cells (.slice A S.length c) S) (hP : OwnT w base 90 10 kref (.slice B K.length d) K) (hne : ∀ i, (Value.slice A S.length c).ownBlock = some i → i ≠ r) (hne2 : ∀ i, (Value.slice B K.length d).ownBlock = some i → i ≠ r) (hnn : ∀ i, (Value.slice A S.length c).ownBlock = some i → (Value.slice B K.length d).ownBlock = some i → False) (hS : Led S) (hbw : base ≤ w.heap.size) (hk : 1 ≤ o.kind ∧ o.kind ≤ 4) (hr : -9223372036854775808 ≤ o.amount ∧ o.amount ≤ 9223372036854775807) (ha : o.kind ≠ 1 → 1 ≤ o.amount) (h4 : o.kind = 4 → o.frm ≠ o.to) (hSl : S.length ≤ 1000) : Calls Tryz.prog 42 ⟨[(ptr r), (agg [(i64 o.kind), (Value.string (str o.frm)), (Value.string (str o.to)), (i64 o.amount), (Value.string (str o.key)), (i64 o.slot), (i64 o.shard)])]⟩ w (fun e w' => ∃ A' c', e = .returned (i64 (actE S o)) ∧ Keeps (fun i => i = r ∨ (Value.slice A S.length c).ownBlock = some i) w w' ∧ Has w' r (rowL [.slice A' (actS S o).length c', .slice B K.length d] 45) ∧ OwnT w' base 47 2 RowM.cells (.slice A' (actS S o).length c') (actS S o) ∧ (∀ i, (Value.slice A' (actS S o).length c').ownBlock = some i → (Value.slice A S.length c).ownBlock = some i ∨ w.heap.size ≤ i)) := by
 by_cases h1 : o.kind = 1
 ·cases hg : getW S o.frm with
  | none => exact Ract_new w base r A c S B d K o Hr hO hP hne hne2 hnn hS hbw hk hr ha h4 hSl h1 hg
  | some a => exact Ract_twice w base r A c S B d K o Hr hO hP hne hne2 hnn hS hbw hk hr ha h4 hSl h1 a hg
 ·cases hg : getW S o.frm with
  | none => exact Ract_no w base r A c S B d K o Hr hO hP hne hne2 hnn hS hbw hk hr ha h4 hSl h1 hg
  | some a =>
   by_cases h2 : o.kind = 2
   ·exact Ract_two w base r A c S B d K o Hr hO hP hne hne2 hnn hS hbw hk hr ha h4 hSl h2 a hg
   ·by_cases h3 : o.kind = 3
    ·exact Ract_three w base r A c S B d K o Hr hO hP hne hne2 hnn hS hbw hk hr ha h4 hSl h3 a hg
    ·cases ht : getW S o.to with
     | none => exact Ract_four0 w base r A c S B d K o Hr hO hP hne hne2 hnn hS hbw hk hr ha h4 hSl (by omega) a hg ht
     | some b => exact Ract_four w base r A c S B d K o Hr hO hP hne hne2 hnn hS hbw hk hr ha h4 hSl (by omega) a hg b ht
end Go.Proofs.YtnfeemhpoaflfaaGreatDoor
namespace Go.Proofs.YtnfeemhpoaflfaaGreatDoor
open Go.Q Go.RowKit

set_option maxHeartbeats 4000000 in
theorem RDo_calls (w : World) (base r : Nat) (A : Option Addr) (c : Nat) (S : List RowM) (B : Option Addr) (d : Nat) (K : List KeptM) (o : Opm) (Hr : Has w r (rowL [.slice A S.length c, .slice B K.length d] 45)) (hO : OwnT w base 47 2 RowM.cells (.slice A S.length c) S) (hP : OwnT w base 90 10 kref (.slice B K.length d) K) (hne : ∀ i, (Value.slice A S.length c).ownBlock = some i → i ≠ r) (hne2 : ∀ i, (Value.slice B K.length d).ownBlock = some i → i ≠ r) (hnn : ∀ i, (Value.slice A S.length c).ownBlock = some i → (Value.slice B K.length d).ownBlock = some i → False) (hS : Led S) (hbw : base ≤ w.heap.size) (hL : Ledg S K) (hr : -9223372036854775808 ≤ o.amount ∧ o.amount ≤ 9223372036854775807) (hSl : S.length ≤ 1000) (hKl : K.length ≤ 1000) : Calls Tryz.prog 17 ⟨[(ptr r), (agg [(i64 o.kind), (Value.string (str o.frm)), (Value.string (str o.to)), (i64 o.amount), (Value.string (str o.key)), (i64 o.slot), (i64 o.shard)])]⟩ w (fun e w' => ∃ A' c' B' d' AR cR, e = .returned (agg [i64 (doR S K o).why, i64 (doR S K o).amount, .slice AR (doR S K o).rows.length cR]) ∧ Keeps (fun i => i = r ∨ (Value.slice A S.length c).ownBlock = some i ∨ (Value.slice B K.length d).ownBlock = some i) w w' ∧ Has w' r (rowL [.slice A' (doS S K o).length c', .slice B' (doK S K o).length d'] 45) ∧ OwnT w' base 47 2 RowM.cells (Value.slice A' (doS S K o).length c') (doS S K o) ∧ OwnT w' base 90 10 kref (Value.slice B' (doK S K o).length d') (doK S K o) ∧ OwnR w' w.heap.size 47 (Value.slice AR (doR S K o).rows.length cR) (doR S K o).rows ∧ (∀ i, ((Value.slice A' (doS S K o).length c')).ownBlock = some i → ((Value.slice A S.length c)).ownBlock = some i ∨ w.heap.size ≤ i) ∧ (∀ i, ((Value.slice B' (doK S K o).length d')).ownBlock = some i → ((Value.slice B K.length d)).ownBlock = some i ∨ w.heap.size ≤ i) ∧ (∀ i, (Value.slice A' (doS S K o).length c').ownBlock = some i → (Value.slice B' (doK S K o).length d').ownBlock = some i → False) ∧ (∀ i, (Value.slice AR (doR S K o).rows.length cR).ownBlock = some i → (Value.slice A' (doS S K o).length c').ownBlock = some i → False) ∧ (∀ i, (Value.slice AR (doR S K o).rows.length cR).ownBlock = some i → (Value.slice B' (doK S K o).length d').ownBlock = some i → False)) := by
 have hR := OwnT.rd hO
 have hQ := OwnT.rd hP
 have Hrl := Hr.lt
 have hcap := RdT.len RowM.two (by decide) hR
 have hcapk := RdT.len kref10 (by decide) hQ
 unfold maxLen at hcap hcapk
 have K0 : Keeps (fun i => i = r ∨ (Value.slice A S.length c).ownBlock = some i ∨ (Value.slice B K.length d).ownBlock = some i) w w := (Keeps.refl w).mono (fun _ _ h => h.elim)
 refine q_calls Tryz.func17 (by kernel_rfl) (by kernel_rfl) ?_
 refine qs ?_
 refine qg ?_
 refine Ops.new (o := rowL [(i64 o.kind), (Value.string (str o.frm)), (Value.string (str o.to)), (i64 o.amount), (Value.string (str o.key)), (i64 o.slot), (i64 o.shard)] 24) (V := fun b => (ptr b)) (by kernel_rfl) (d := (some 3)) (by kernel_rfl) (fun b => rfl) (fun b1 w2 hb3 H4 K5 hs6 => ?_)
 have lb1r : r < b1 := by have := Hr.lt; omega
 have nb1 : w.heap.size ≤ b1 := by have := K0.size; omega
 have ob7 : ∀ i, ((Value.slice A S.length c)).ownBlock = some i → i < b1 := fun i hi => by have := (World.ownsRow.lt hO i hi).2; omega
 have ob8 : ∀ i, ((Value.slice B K.length d)).ownBlock = some i → i < b1 := fun i hi => by have := (World.ownsRow.lt hP i hi).2; omega
 replace K0 := K0.trans K5 (U := (fun i => i = r ∨ ((Value.slice A S.length c)).ownBlock = some i ∨ ((Value.slice B K.length d)).ownBlock = some i)) (fun i h1 h2 => h2) (fun i h1 h2 => by exact h2.elim)
 replace Hr := Hr.keep K5 (fun h => h)
 replace hO := own_keep0 hO K5
 replace hP := own_keep0 hP K5
 clear K5 hs6
 refine Ops.new (o := rowL [(i64 0), (i64 0), (Value.slice none 0 0)] 30) (V := fun b => (ptr b)) (by kernel_rfl) (d := (some 4)) (by kernel_rfl) (fun b => rfl) (fun b9 w10 hb11 H12 K13 hs14 => ?_)
 have lb9r : r < b9 := by have := Hr.lt; omega
 have lb9b1 : b1 < b9 := by have := H4.lt; omega
 have nb9 : w.heap.size ≤ b9 := by have := K0.size; omega
 have ob15 : ∀ i, ((Value.slice A S.length c)).ownBlock = some i → i < b9 := fun i hi => by have := (World.ownsRow.lt hO i hi).2; omega
 have ob16 : ∀ i, ((Value.slice B K.length d)).ownBlock = some i → i < b9 := fun i hi => by have := (World.ownsRow.lt hP i hi).2; omega
 replace K0 := K0.trans K13 (U := (fun i => i = r ∨ ((Value.slice A S.length c)).ownBlock = some i ∨ ((Value.slice B K.length d)).ownBlock = some i)) (fun i h1 h2 => h2) (fun i h1 h2 => by exact h2.elim)
 replace Hr := Hr.keep K13 (fun h => h)
 replace H4 := H4.keep K13 (fun h => h)
 replace hO := own_keep0 hO K13
 replace hP := own_keep0 hP K13
 clear K13 hs14
 refine od ?_
 refine qs ?_
 refine qg ?_
 refine Ops.go (v := (agg [(i64 o.kind), (Value.string (str o.frm)), (Value.string (str o.to)), (i64 o.amount), (Value.string (str o.key)), (i64 o.slot), (i64 o.shard)])) (by kernel_rfl) (Runs.load (t := 24) (a := ⟨b1, 0, none⟩) (by kernel_rfl) (H4.loads (by kernel_rfl))) (d := (some 12)) (by kernel_rfl) rfl ?_
 refine Ops.call (by kernel_rfl) (d := (some 13)) (by kernel_rfl) (RWrong_calls _ o) ?_
 rintro _ w18 ⟨rfl, K17⟩
 refine ⟨_, _, rfl, rfl, ?_⟩
 replace K0 := K0.trans K17 (U := (fun i => i = r ∨ ((Value.slice A S.length c)).ownBlock = some i ∨ ((Value.slice B K.length d)).ownBlock = some i)) (fun i h1 h2 => h2) (fun i h1 h2 => by exact h2.elim)
 replace Hr := Hr.keep K17 (fun h => h)
 replace H4 := H4.keep K17 (fun h => h)
 replace H12 := H12.keep K17 (fun h => h)
 replace hO := own_keep0 hO K17
 replace hP := own_keep0 hP K17
 clear K17
 refine og 1 [(0, (ptr r)), (3, (ptr b1)), (4, (ptr b9)), (5, (i64 (wrongE o)))] 3 ?_
 refine od ?_
 refine qs ?_
 refine qs ?_
 refine qg ?_
 refine og 2 [(0, (ptr r)), (3, (ptr b1)), (4, (ptr b9)), (5, (i64 (wrongE o))), (15, (Value.bool ((wrongE o) != 0)))] 2 ?_
 refine od ?_
 refine q_cond (o := .tmp 15) (b := ((wrongE o) != 0)) (by kernel_rfl) rfl (fun h19 => ?_) (fun h19 => ?_)
 ·rw [h19]
  have p20 : ¬ (wrongE o = 0) := of_bne_t h19
  refine qs ?_
  refine qg ?_
  refine og 2 [(0, (ptr r)), (3, (ptr b1)), (4, (ptr b9)), (17, (agg [(i64 (wrongE o)), (i64 0), (Value.slice none 0 0)]))] 2 ?_
  refine Ops.put (t := 30) (b := b9) (off := 0) (v := (agg [(i64 (wrongE o)), (i64 0), (Value.slice none 0 0)])) (ys := [(i64 (wrongE o)), (i64 0), (Value.slice none 0 0)]) (by kernel_rfl) (by kernel_rfl) H12 (by kernel_rfl) (d := none) (by kernel_rfl) rfl (fun w21 H22 K23 => ?_)
  clear H12
  replace K0 := K0.trans K23 (U := (fun i => i = r ∨ ((Value.slice A S.length c)).ownBlock = some i ∨ ((Value.slice B K.length d)).ownBlock = some i)) (fun i h1 h2 => h2) (fun i h1 h2 => by have h2 : i = b9 := h2; exfalso; omega)
  replace Hr := Hr.keep K23 (by intro h; change r = b9 at h; omega)
  replace H4 := H4.keep K23 (by intro h; change b1 = b9 at h; omega)
  replace hO := own_keep hO K23 (fun i hi hs => by have hs : i = b9 := hs; have := ob15 i hi; omega)
  replace hP := own_keep hP K23 (fun i hi hs => by have hs : i = b9 := hs; have := ob16 i hi; omega)
  clear K23
  refine od ?_
  refine q_ret (by kernel_rfl) ?_
  refine ⟨(agg [(i64 (wrongE o)), (i64 0), (Value.slice none 0 0)]), retv_cell rfl rfl (H22.loads (by kernel_rfl)), ?_⟩
  have e0 := do_wrong (S := S) (K := K) (o := o) (by omega)
  obtain ⟨e1, e2, e3⟩ := e0
  rw [e1, e2, e3]
  exact ⟨_, _, _, _, none, 0, rfl, K0, Hr, hO, hP, (OwnT.nil _ _ _ _ _), (fun _ h => .inl h), (fun _ h => .inl h), hnn, (fun i h => by cases h), (fun i h => by cases h)⟩
 ·rw [h19]
  have p24 : wrongE o = 0 := of_bne_f h19
  have hw : wrongE o = 0 := by omega
  refine q_skip (by kernel_rfl) ?_
  refine qs ?_
  refine qs ?_
  refine qg ?_
  refine og 1 [(0, (ptr r)), (3, (ptr b1)), (4, (ptr b9)), (18, (ptr b1))] 1 ?_
  refine Ops.go (v := (i64 o.kind)) (by kernel_rfl) (Runs.load (t := 3) (a := ⟨b1, 0, none⟩) (by kernel_rfl) (H4.loads (by kernel_rfl))) (d := (some 19)) (by kernel_rfl) rfl ?_
  refine od ?_
  refine q_block (id := 0) (by kernel_rfl) ?_
  refine qs ?_
  refine qg ?_
  refine og 2 [(0, (ptr r)), (3, (ptr b1)), (4, (ptr b9)), (19, (i64 o.kind)), (20, (Value.bool (o.kind == 7)))] 2 ?_
  refine od ?_
  refine q_cond (o := .tmp 20) (b := (o.kind == 7)) (by kernel_rfl) rfl (fun h25 => ?_) (fun h25 => ?_)
  ·rw [h25]
   have p26 : o.kind = 7 := of_beq_t h25
   refine qs ?_
   refine qg ?_
   refine og 1 [(0, (ptr r)), (3, (ptr b1)), (4, (ptr b9)), (19, (i64 o.kind)), (22, (agg [(i64 0), (i64 0), (Value.slice none 0 0)]))] 1 ?_
   refine Ops.put (t := 30) (b := b9) (off := 0) (v := (agg [(i64 0), (i64 0), (Value.slice none 0 0)])) (ys := [(i64 0), (i64 0), (Value.slice none 0 0)]) (by kernel_rfl) (by kernel_rfl) H12 (by kernel_rfl) (d := none) (by kernel_rfl) rfl (fun w27 H28 K29 => ?_)
   clear H12
   replace K0 := K0.trans K29 (U := (fun i => i = r ∨ ((Value.slice A S.length c)).ownBlock = some i ∨ ((Value.slice B K.length d)).ownBlock = some i)) (fun i h1 h2 => h2) (fun i h1 h2 => by have h2 : i = b9 := h2; exfalso; omega)
   replace Hr := Hr.keep K29 (by intro h; change r = b9 at h; omega)
   replace H4 := H4.keep K29 (by intro h; change b1 = b9 at h; omega)
   replace hO := own_keep hO K29 (fun i hi hs => by have hs : i = b9 := hs; have := ob15 i hi; omega)
   replace hP := own_keep hP K29 (fun i hi hs => by have hs : i = b9 := hs; have := ob16 i hi; omega)
   clear K29
   refine od ?_
   refine q_ret (by kernel_rfl) ?_
   refine ⟨(agg [(i64 0), (i64 0), (Value.slice none 0 0)]), retv_cell rfl rfl (H28.loads (by kernel_rfl)), ?_⟩
   have e0 := do_move (S := S) (K := K) (o := o) hw (by omega)
   obtain ⟨e1, e2, e3⟩ := e0
   rw [e1, e2, e3]
   exact ⟨_, _, _, _, none, 0, rfl, K0, Hr, hO, hP, (OwnT.nil _ _ _ _ _), (fun _ h => .inl h), (fun _ h => .inl h), hnn, (fun i h => by cases h), (fun i h => by cases h)⟩
  ·rw [h25]
   have p30 : ¬ (o.kind = 7) := of_beq_f h25
   refine qs ?_
   refine qg ?_
   refine og 2 [(0, (ptr r)), (3, (ptr b1)), (4, (ptr b9)), (19, (i64 o.kind)), (23, (Value.bool (o.kind == 6)))] 2 ?_
   refine od ?_
   refine q_cond (o := .tmp 23) (b := (o.kind == 6)) (by kernel_rfl) rfl (fun h31 => ?_) (fun h31 => ?_)
   ·rw [h31]
    have p32 : o.kind = 6 := of_beq_t h31
    refine qs ?_
    refine qg ?_
    refine Ops.new (o := rowL [(i64 0), (i64 0), (Value.slice none 0 0)] 30) (V := fun b => (ptr b)) (by kernel_rfl) (d := (some 6)) (by kernel_rfl) (fun b => rfl) (fun b33 w34 hb35 H36 K37 hs38 => ?_)
    have lb33r : r < b33 := by have := Hr.lt; omega
    have lb33b1 : b1 < b33 := by have := H4.lt; omega
    have lb33b9 : b9 < b33 := by have := H12.lt; omega
    have nb33 : w.heap.size ≤ b33 := by have := K0.size; omega
    have ob39 : ∀ i, ((Value.slice A S.length c)).ownBlock = some i → i < b33 := fun i hi => by have := (World.ownsRow.lt hO i hi).2; omega
    have ob40 : ∀ i, ((Value.slice B K.length d)).ownBlock = some i → i < b33 := fun i hi => by have := (World.ownsRow.lt hP i hi).2; omega
    replace K0 := K0.trans K37 (U := (fun i => i = r ∨ ((Value.slice A S.length c)).ownBlock = some i ∨ ((Value.slice B K.length d)).ownBlock = some i)) (fun i h1 h2 => h2) (fun i h1 h2 => by exact h2.elim)
    replace Hr := Hr.keep K37 (fun h => h)
    replace H4 := H4.keep K37 (fun h => h)
    replace H12 := H12.keep K37 (fun h => h)
    replace hO := own_keep0 hO K37
    replace hP := own_keep0 hP K37
    clear K37 hs38
    refine od ?_
    refine qs ?_
    refine q_draw (fun wz => Keeps (fun i => i = b33) w34 wz) 9 (by kernel_rfl) (by kernel_rfl) (by kernel_rfl) (fun w41 K42 _ _ => ⟨(K42.mono (fun _ _ h => h.elim)), ?_⟩)
    replace K0 := K0.trans K42 (U := (fun i => i = r ∨ ((Value.slice A S.length c)).ownBlock = some i ∨ ((Value.slice B K.length d)).ownBlock = some i)) (fun i h1 h2 => h2) (fun i h1 h2 => by exact h2.elim)
    replace Hr := Hr.keep K42 (fun h => h)
    replace H4 := H4.keep K42 (fun h => h)
    replace H12 := H12.keep K42 (fun h => h)
    replace H36 := H36.keep K42 (fun h => h)
    replace hO := own_keep0 hO K42
    replace hP := own_keep0 hP K42
    refine Dr.strong (S' := (fun wz => Keeps (fun i => i = b33) w41 wz)) ((Keeps.refl w41).mono (fun _ _ h => h.elim)) (fun wz hx => K42.trans hx (fun i _ h => h.elim) (fun _ _ h => h)) ?_
    clear K42
    refine Dr.takes (fuel' := 5) (is' := [4, 3, 2, 0]) [0, 2, 3, 4] [(0, (ptr r)), (3, (ptr b1)), (4, (ptr b9)), (6, (ptr b33)), (19, (i64 o.kind)), (25, (Value.pointer (some ⟨b33, 2, none⟩))), (29, (ptr r))] (by kernel_rfl) rfl (by kernel_rfl) ?_
    refine Dr.take (i := 5) (v := (Value.slice A S.length c)) (by kernel_rfl) (by kernel_rfl) (fun wz hS => Runs.load (t := 28) (a := ⟨r, 0, none⟩) (by kernel_rfl) ((Hr.keep hS (by intro h; change r = b33 at h; omega)).loads (by kernel_rfl))) (d := (some 30)) (by kernel_rfl) rfl ?_
    refine Dr.go (i := 1) (v := (Value.slice none 0 0)) (by kernel_rfl) (by kernel_rfl) (Runs.load (t := 28) (a := ⟨b33, 2, none⟩) (by kernel_rfl) (H36.loads (by kernel_rfl))) (d := (some 26)) (by kernel_rfl) rfl ((Keeps.refl _).mono (fun _ _ h => h.elim)) ?_
    obtain ⟨v43, w44, hr45, hO46, hK47, hg48⟩ := OwnT.app (ty := 28) RowM.two RowM.one tyR (OwnT.nil _ w.heap.size 47 2 RowM.cells) (OwnT.rd hO) (by (try simp only [List.length_append]); (try simp only [List.length_cons]); (try simp only [List.length_nil]); omega) (by (try simp only [List.length_append]); (try simp only [List.length_cons]); (try simp only [List.length_nil]); omega) K0.size
    obtain ⟨A50, c51, rfl⟩ := RdT.form RowM.two (by decide) (OwnT.rd hO46)
    obtain ⟨l52, hl53⟩ : ∃ z, z = [] ++ S := ⟨_, rfl⟩
    rw [← hl53] at hr45 hO46 hg48
    have hn54 : l52.length = 0 + S.length := by simp [hl53]
    have ob55 : ∀ i, ((Value.slice A50 l52.length c51)).ownBlock = some i → i ≠ r := fun i hi => by rcases hg48 i hi with h | h; (cases h); (have := Hr.lt; omega)
    have ob56 : ∀ i, ((Value.slice A50 l52.length c51)).ownBlock = some i → i ≠ b1 := fun i hi => by rcases hg48 i hi with h | h; (cases h); (have := H4.lt; omega)
    have ob57 : ∀ i, ((Value.slice A50 l52.length c51)).ownBlock = some i → i ≠ b9 := fun i hi => by rcases hg48 i hi with h | h; (cases h); (have := H12.lt; omega)
    have ob58 : ∀ i, ((Value.slice A50 l52.length c51)).ownBlock = some i → i ≠ b33 := fun i hi => by rcases hg48 i hi with h | h; (cases h); (have := H36.lt; omega)
    have oo59 : ∀ i, ((Value.slice A S.length c)).ownBlock = some i → ((Value.slice A50 l52.length c51)).ownBlock = some i → False := fun i hi hs => by rcases hg48 i hs with h | h; (cases h); (have := (World.ownsRow.lt hO i hi).2; omega)
    have oo60 : ∀ i, ((Value.slice A50 l52.length c51)).ownBlock = some i → ((Value.slice A S.length c)).ownBlock = some i → False := fun i hi hs => oo59 i hs hi
    have oo61 : ∀ i, ((Value.slice B K.length d)).ownBlock = some i → ((Value.slice A50 l52.length c51)).ownBlock = some i → False := fun i hi hs => by rcases hg48 i hs with h | h; (cases h); (have := (World.ownsRow.lt hP i hi).2; omega)
    have oo62 : ∀ i, ((Value.slice A50 l52.length c51)).ownBlock = some i → ((Value.slice B K.length d)).ownBlock = some i → False := fun i hi hs => oo61 i hs hi
    have K49 := Keeps.mono (U := none_) hK47 (fun _ _ h => by cases h)
    replace K0 := K0.trans K49 (U := (fun i => i = r ∨ ((Value.slice A S.length c)).ownBlock = some i ∨ ((Value.slice B K.length d)).ownBlock = some i)) (fun i h1 h2 => h2) (fun i h1 h2 => by exact h2.elim)
    replace Hr := Hr.keep K49 (fun h => h)
    replace H4 := H4.keep K49 (fun h => h)
    replace H12 := H12.keep K49 (fun h => h)
    replace H36 := H36.keep K49 (fun h => h)
    replace hO := own_keep0 hO K49
    replace hP := own_keep0 hP K49
    refine Dr.go (i := 6) (v := (Value.slice A50 l52.length c51)) (by kernel_rfl) (by kernel_rfl) (Runs.append (ts := #[28, 28]) (ty := 28) (vs := [(Value.slice none 0 0), (Value.slice A S.length c)]) (by kernel_rfl) hr45) (d := (some 31)) (by kernel_rfl) rfl (K49.mono (fun _ _ h => h.elim)) ?_
    refine Dr.strong (S' := (fun wz => Keeps (fun i => i = b33) w44 wz)) ((Keeps.refl w44).mono (fun _ _ h => h.elim)) (fun wz hx => K49.trans hx (fun i _ h => h.elim) (fun _ _ h => h)) ?_
    clear K49 hr45 hK47 hg48
    refine Dr.takes (fuel' := 1) (is' := [7, 6, 1, 5, 4, 3, 2, 0]) [7] [(0, (ptr r)), (3, (ptr b1)), (4, (ptr b9)), (6, (ptr b33)), (19, (i64 o.kind)), (31, (Value.slice A50 l52.length c51)), (32, (Value.pointer (some ⟨b33, 2, none⟩)))] (by kernel_rfl) rfl (by kernel_rfl) ?_
    refine Dr.put (i := 8) (t := 28) (b := b33) (off := 2) (v := (Value.slice A50 l52.length c51)) (ys := [(i64 0), (i64 0), (Value.slice A50 l52.length c51)]) (by kernel_rfl) (by kernel_rfl) (by kernel_rfl) H36 (by kernel_rfl) (d := none) (by kernel_rfl) rfl (fun w63 H64 K65 => ?_)
    clear H36
    replace K0 := K0.trans K65 (U := (fun i => i = r ∨ ((Value.slice A S.length c)).ownBlock = some i ∨ ((Value.slice B K.length d)).ownBlock = some i)) (fun i h1 h2 => h2) (fun i h1 h2 => by have h2 : i = b33 := h2; exfalso; omega)
    replace Hr := Hr.keep K65 (by intro h; change r = b33 at h; omega)
    replace H4 := H4.keep K65 (by intro h; change b1 = b33 at h; omega)
    replace H12 := H12.keep K65 (by intro h; change b9 = b33 at h; omega)
    replace hO := own_keep hO K65 (fun i hi hs => by have hs : i = b33 := hs; have := ob39 i hi; omega)
    replace hP := own_keep hP K65 (fun i hi hs => by have hs : i = b33 := hs; have := ob40 i hi; omega)
    replace hO46 := own_keep hO46 K65 (fun i hi hs => by have hs : i = b33 := hs; have := ob58 i hi; omega)
    refine ⟨K65, ?_⟩
    refine Dr.strong (S' := (fun wz => Keeps (fun i => i = b33) w63 wz)) ((Keeps.refl w63).mono (fun _ _ h => h.elim)) (fun wz hx => K65.trans hx (fun i _ h => by have h : i = b33 := h; show i = b33; omega) (fun _ _ h => h)) ?_
    clear K65
    refine Dr.done (by kernel_rfl) ?_
    refine qs ?_
    refine qg ?_
    refine Ops.go (v := (agg [(i64 0), (i64 0), (Value.slice A50 l52.length c51)])) (by kernel_rfl) (Runs.load (t := 30) (a := ⟨b33, 0, none⟩) (by kernel_rfl) (H64.loads (by kernel_rfl))) (d := (some 33)) (by kernel_rfl) rfl ?_
    refine Ops.put (t := 30) (b := b9) (off := 0) (v := (agg [(i64 0), (i64 0), (Value.slice A50 l52.length c51)])) (ys := [(i64 0), (i64 0), (Value.slice A50 l52.length c51)]) (by kernel_rfl) (by kernel_rfl) H12 (by kernel_rfl) (d := none) (by kernel_rfl) rfl (fun w66 H67 K68 => ?_)
    clear H12
    replace K0 := K0.trans K68 (U := (fun i => i = r ∨ ((Value.slice A S.length c)).ownBlock = some i ∨ ((Value.slice B K.length d)).ownBlock = some i)) (fun i h1 h2 => h2) (fun i h1 h2 => by have h2 : i = b9 := h2; exfalso; omega)
    replace Hr := Hr.keep K68 (by intro h; change r = b9 at h; omega)
    replace H4 := H4.keep K68 (by intro h; change b1 = b9 at h; omega)
    replace H64 := H64.keep K68 (by intro h; change b33 = b9 at h; omega)
    replace hO := own_keep hO K68 (fun i hi hs => by have hs : i = b9 := hs; have := ob15 i hi; omega)
    replace hP := own_keep hP K68 (fun i hi hs => by have hs : i = b9 := hs; have := ob16 i hi; omega)
    replace hO46 := own_keep hO46 K68 (fun i hi hs => by have hs : i = b9 := hs; have := ob57 i hi; omega)
    clear K68
    refine od ?_
    refine q_ret (by kernel_rfl) ?_
    refine ⟨(agg [(i64 0), (i64 0), (Value.slice A50 l52.length c51)]), retv_cell rfl rfl (H67.loads (by kernel_rfl)), ?_⟩
    have e0 := do_audit (S := S) (K := K) (o := o) hw (by omega)
    obtain ⟨e1, e2, e3⟩ := e0
    have oo69 := oo60
    have oo70 := oo62
    rw [hl53, List.nil_append] at hO46 oo69 oo70
    have hlz : l52.length = S.length := by rw [hl53]; rfl
    rw [e1, e2, e3]
    exact ⟨_, _, _, _, A50, c51, by rw [hl53, List.nil_append], K0, Hr, hO, hP, hO46, (fun _ h => .inl h), (fun _ h => .inl h), hnn, oo69, oo70⟩
   ·rw [h31]
    have p71 : ¬ (o.kind = 6) := of_beq_f h31
    refine qs ?_
    refine qg ?_
    refine og 2 [(0, (ptr r)), (3, (ptr b1)), (4, (ptr b9)), (34, (Value.bool (o.kind == 5)))] 2 ?_
    refine od ?_
    refine q_cond (o := .tmp 34) (b := (o.kind == 5)) (by kernel_rfl) rfl (fun h72 => ?_) (fun h72 => ?_)
    ·rw [h72]
     have p73 : o.kind = 5 := of_beq_t h72
     refine qs ?_
     refine qg ?_
     refine og 2 [(0, (ptr r)), (3, (ptr b1)), (4, (ptr b9)), (37, (ptr r)), (38, (Value.pointer (some ⟨b1, 1, none⟩)))] 2 ?_
     refine Ops.go (v := (Value.string (str o.frm))) (by kernel_rfl) (Runs.load (t := 9) (a := ⟨b1, 1, none⟩) (by kernel_rfl) (H4.loads (by kernel_rfl))) (d := (some 39)) (by kernel_rfl) rfl ?_
     refine Ops.call (by kernel_rfl) (d := (some 40)) (by kernel_rfl) (Rfind_calls _ r A c S B d K o.frm Hr (OwnT.rd hO) (OwnT.rd hP)) ?_
     rintro _ w75 ⟨rfl, K74⟩
     refine ⟨_, _, rfl, rfl, ?_⟩
     replace K0 := K0.trans K74 (U := (fun i => i = r ∨ ((Value.slice A S.length c)).ownBlock = some i ∨ ((Value.slice B K.length d)).ownBlock = some i)) (fun i h1 h2 => h2) (fun i h1 h2 => by exact h2.elim)
     replace Hr := Hr.keep K74 (fun h => h)
     replace H4 := H4.keep K74 (fun h => h)
     replace H12 := H12.keep K74 (fun h => h)
     replace hO := own_keep0 hO K74
     replace hP := own_keep0 hP K74
     clear K74
     refine og 5 [(0, (ptr r)), (3, (ptr b1)), (4, (ptr b9)), (7, (i64 ((posW S o.frm : Nat) : Int))), (8, (Value.bool (hasW S o.frm)))] 9 ?_
     refine od ?_
     refine qs ?_
     refine qs ?_
     refine qg ?_
     refine og 2 [(0, (ptr r)), (3, (ptr b1)), (4, (ptr b9)), (7, (i64 ((posW S o.frm : Nat) : Int))), (44, (Value.bool (!(hasW S o.frm))))] 2 ?_
     refine od ?_
     refine q_cond (o := .tmp 44) (b := (!(hasW S o.frm))) (by kernel_rfl) rfl (fun h76 => ?_) (fun h76 => ?_)
     ·rw [h76]
      have p77 : (hasW S o.frm) = false := (bnot_true h76)
      have hg := hasw_none hS (bnot_true h76)
      refine qs ?_
      refine qg ?_
      refine og 1 [(0, (ptr r)), (3, (ptr b1)), (4, (ptr b9)), (7, (i64 ((posW S o.frm : Nat) : Int))), (45, (agg [(i64 40), (i64 0), (Value.slice none 0 0)]))] 1 ?_
      refine Ops.put (t := 30) (b := b9) (off := 0) (v := (agg [(i64 40), (i64 0), (Value.slice none 0 0)])) (ys := [(i64 40), (i64 0), (Value.slice none 0 0)]) (by kernel_rfl) (by kernel_rfl) H12 (by kernel_rfl) (d := none) (by kernel_rfl) rfl (fun w78 H79 K80 => ?_)
      clear H12
      replace K0 := K0.trans K80 (U := (fun i => i = r ∨ ((Value.slice A S.length c)).ownBlock = some i ∨ ((Value.slice B K.length d)).ownBlock = some i)) (fun i h1 h2 => h2) (fun i h1 h2 => by have h2 : i = b9 := h2; exfalso; omega)
      replace Hr := Hr.keep K80 (by intro h; change r = b9 at h; omega)
      replace H4 := H4.keep K80 (by intro h; change b1 = b9 at h; omega)
      replace hO := own_keep hO K80 (fun i hi hs => by have hs : i = b9 := hs; have := ob15 i hi; omega)
      replace hP := own_keep hP K80 (fun i hi hs => by have hs : i = b9 := hs; have := ob16 i hi; omega)
      clear K80
      refine od ?_
      refine q_ret (by kernel_rfl) ?_
      refine ⟨(agg [(i64 40), (i64 0), (Value.slice none 0 0)]), retv_cell rfl rfl (H79.loads (by kernel_rfl)), ?_⟩
      have e0 := do_bal_none (S := S) (K := K) (o := o) hw (by omega) hg
      obtain ⟨e1, e2, e3⟩ := e0
      rw [e1, e2, e3]
      exact ⟨_, _, _, _, none, 0, rfl, K0, Hr, hO, hP, (OwnT.nil _ _ _ _ _), (fun _ h => .inl h), (fun _ h => .inl h), hnn, (fun i h => by cases h), (fun i h => by cases h)⟩
     ·rw [h76]
      have p81 : (hasW S o.frm) = true := (bnot_false h76)
      obtain ⟨a, hg, hf2⟩ := hasw_get hS (bnot_false h76)
      have hfl := (List.getElem?_eq_some_iff.1 hf2).1
      obtain ⟨rb82, ro83, hA84⟩ := Rd.addr (OwnT.rd hO) (by omega)
      refine q_skip (by kernel_rfl) ?_
      refine qs ?_
      refine qg ?_
      refine og 3 [(0, (ptr r)), (3, (ptr b1)), (4, (ptr b9)), (7, (i64 ((posW S o.frm : Nat) : Int))), (48, (ptr r))] 3 ?_
      refine Ops.go (v := (Value.slice A S.length c)) (by kernel_rfl) (Runs.load (t := 28) (a := ⟨r, 0, none⟩) (by kernel_rfl) (Hr.loads (by kernel_rfl))) (d := (some 49)) (by kernel_rfl) rfl ?_
      refine og 1 [(0, (ptr r)), (3, (ptr b1)), (4, (ptr b9)), (49, (Value.slice A S.length c)), (50, (i64 ((posW S o.frm : Nat) : Int)))] 5 ?_
      refine Ops.go (by kernel_rfl) (Runs.ixSliceE (k := IntKind.i64) (t := 28) (len := S.length) (cap := c) (s := 2) (off' := ro83 + (posW S o.frm) * 2) (i := ((posW S o.frm : Nat) : Int)) hA84 (by kernel_rfl) (by kernel_rfl) (by omega) (by omega) (by omega)) (d := (some 51)) (by kernel_rfl) rfl ?_
      refine og 1 [(0, (ptr r)), (3, (ptr b1)), (4, (ptr b9)), (52, (Value.pointer (some ⟨rb82, ro83 + (posW S o.frm) * 2 + 1, none⟩)))] 7 ?_
      refine Ops.go (v := (i64 a.amount)) (by kernel_rfl) (Runs.load (t := 2) (a := ⟨rb82, ro83 + (posW S o.frm) * 2 + 1, none⟩) (by kernel_rfl) (RdT.ldf (f := RowM.cells) (x := a) (o := 1) RowM.two (OwnT.rd hO) (by kernel_rfl) hA84 hf2 rfl)) (d := (some 53)) (by kernel_rfl) rfl ?_
      refine og 1 [(0, (ptr r)), (3, (ptr b1)), (4, (ptr b9)), (54, (agg [(i64 0), (i64 a.amount), (Value.slice none 0 0)]))] 9 ?_
      refine Ops.put (t := 30) (b := b9) (off := 0) (v := (agg [(i64 0), (i64 a.amount), (Value.slice none 0 0)])) (ys := [(i64 0), (i64 a.amount), (Value.slice none 0 0)]) (by kernel_rfl) (by kernel_rfl) H12 (by kernel_rfl) (d := none) (by kernel_rfl) rfl (fun w85 H86 K87 => ?_)
      clear H12
      replace K0 := K0.trans K87 (U := (fun i => i = r ∨ ((Value.slice A S.length c)).ownBlock = some i ∨ ((Value.slice B K.length d)).ownBlock = some i)) (fun i h1 h2 => h2) (fun i h1 h2 => by have h2 : i = b9 := h2; exfalso; omega)
      replace Hr := Hr.keep K87 (by intro h; change r = b9 at h; omega)
      replace H4 := H4.keep K87 (by intro h; change b1 = b9 at h; omega)
      replace hO := own_keep hO K87 (fun i hi hs => by have hs : i = b9 := hs; have := ob15 i hi; omega)
      replace hP := own_keep hP K87 (fun i hi hs => by have hs : i = b9 := hs; have := ob16 i hi; omega)
      clear K87
      refine od ?_
      refine q_ret (by kernel_rfl) ?_
      refine ⟨(agg [(i64 0), (i64 a.amount), (Value.slice none 0 0)]), retv_cell rfl rfl (H86.loads (by kernel_rfl)), ?_⟩
      have e0 := do_bal_some (S := S) (K := K) (o := o) hw (by omega) hg
      obtain ⟨e1, e2, e3⟩ := e0
      rw [e1, e2, e3]
      exact ⟨_, _, _, _, none, 0, rfl, K0, Hr, hO, hP, (OwnT.nil _ _ _ _ _), (fun _ h => .inl h), (fun _ h => .inl h), hnn, (fun i h => by cases h), (fun i h => by cases h)⟩
    ·rw [h72]
     have p88 : ¬ (o.kind = 5) := of_beq_f h72
     have hwa := wrong_act hw (by omega) (by omega) (by omega)
     have hro : -9223372036854775808 ≤ (plainE o).amount ∧ (plainE o).amount ≤ 9223372036854775807 := by unfold plainE; simp only; split <;> omega
     refine q_skip (by kernel_rfl) ?_
     refine qs ?_
     refine qg ?_
     refine Ops.go (v := (agg [(i64 o.kind), (Value.string (str o.frm)), (Value.string (str o.to)), (i64 o.amount), (Value.string (str o.key)), (i64 o.slot), (i64 o.shard)])) (by kernel_rfl) (Runs.load (t := 24) (a := ⟨b1, 0, none⟩) (by kernel_rfl) (H4.loads (by kernel_rfl))) (d := (some 55)) (by kernel_rfl) rfl ?_
     refine Ops.call (by kernel_rfl) (d := (some 56)) (by kernel_rfl) (just_calls _ o) ?_
     rintro _ w90 ⟨rfl, K89⟩
     refine ⟨_, _, rfl, rfl, ?_⟩
     replace K0 := K0.trans K89 (U := (fun i => i = r ∨ ((Value.slice A S.length c)).ownBlock = some i ∨ ((Value.slice B K.length d)).ownBlock = some i)) (fun i h1 h2 => h2) (fun i h1 h2 => by exact h2.elim)
     replace Hr := Hr.keep K89 (fun h => h)
     replace H4 := H4.keep K89 (fun h => h)
     replace H12 := H12.keep K89 (fun h => h)
     replace hO := own_keep0 hO K89
     replace hP := own_keep0 hP K89
     clear K89
     refine Ops.put (t := 24) (b := b1) (off := 0) (v := (agg [(i64 o.kind), (Value.string (str o.frm)), (Value.string (str ((plainE o).to))), (i64 ((plainE o).amount)), (Value.string (str o.key)), (i64 0), (i64 0)])) (ys := [(i64 o.kind), (Value.string (str o.frm)), (Value.string (str ((plainE o).to))), (i64 ((plainE o).amount)), (Value.string (str o.key)), (i64 0), (i64 0)]) (by kernel_rfl) (by kernel_rfl) H4 (by kernel_rfl) (d := none) (by kernel_rfl) rfl (fun w91 H92 K93 => ?_)
     clear H4
     replace K0 := K0.trans K93 (U := (fun i => i = r ∨ ((Value.slice A S.length c)).ownBlock = some i ∨ ((Value.slice B K.length d)).ownBlock = some i)) (fun i h1 h2 => h2) (fun i h1 h2 => by have h2 : i = b1 := h2; exfalso; omega)
     replace Hr := Hr.keep K93 (by intro h; change r = b1 at h; omega)
     replace H12 := H12.keep K93 (by intro h; change b9 = b1 at h; omega)
     replace hO := own_keep hO K93 (fun i hi hs => by have hs : i = b1 := hs; have := ob7 i hi; omega)
     replace hP := own_keep hP K93 (fun i hi hs => by have hs : i = b1 := hs; have := ob8 i hi; omega)
     clear K93
     refine od ?_
     refine qs ?_
     refine qs ?_
     refine qg ?_
     refine og 1 [(0, (ptr r)), (3, (ptr b1)), (4, (ptr b9)), (9, (i64 0))] 1 ?_
     refine od ?_
     refine q_block (id := 1) (by kernel_rfl) ?_
     refine q_keep (R := [(0, (ptr r)), (3, (ptr b1)), (4, (ptr b9)), (9, (i64 0))]) (by kernel_rfl) ?_
     refine q_loop (fun (i : Nat) L (wx : World) => L = [(0, (ptr r)), (3, (ptr b1)), (4, (ptr b9)), (9, (i64 ((i : Nat) : Int)))] ∧ OwnT wx base 47 2 RowM.cells (Value.slice A S.length c) S ∧ OwnT wx base 90 10 kref (Value.slice B K.length d) K ∧ i ≤ K.length ∧ (∀ j y, j < i → K[j]? = some y → ¬ (y.op.frm = o.frm ∧ y.op.key = o.key)) ∧ Keeps (fun i => i = r ∨ ((Value.slice A S.length c)).ownBlock = some i ∨ ((Value.slice B K.length d)).ownBlock = some i) w wx ∧ Has wx r (rowL [(Value.slice A S.length c), (Value.slice B K.length d)] 45) ∧ Has wx b1 (rowL [(i64 o.kind), (Value.string (str o.frm)), (Value.string (str ((plainE o).to))), (i64 ((plainE o).amount)), (Value.string (str o.key)), (i64 0), (i64 0)] 24) ∧ Has wx b9 (rowL [(i64 0), (i64 0), (Value.slice none 0 0)] 30)) (fun (i : Nat) => K.length - i) 0 (by kernel_rfl) ⟨rfl, hO, hP, Nat.zero_le _, (fun j y h => absurd h (Nat.not_lt_zero _)), K0, Hr, H92, H12⟩ ?_
     clear Hr H92 H12 hO hP K0
     rintro i _ w94 ⟨rfl, hC0, hC1, hi, hno, K95, H96, H97, H98⟩
     refine qs ?_
     refine qs ?_
     refine qg ?_
     refine og 4 [(0, (ptr r)), (3, (ptr b1)), (4, (ptr b9)), (9, (i64 ((i : Nat) : Int))), (57, (i64 ((i : Nat) : Int))), (60, (Value.pointer (some ⟨r, 1, none⟩)))] 4 ?_
     refine Ops.go (v := (Value.slice B K.length d)) (by kernel_rfl) (Runs.load (t := 43) (a := ⟨r, 1, none⟩) (by kernel_rfl) (H96.loads (by kernel_rfl))) (d := (some 61)) (by kernel_rfl) rfl ?_
     refine og 2 [(0, (ptr r)), (3, (ptr b1)), (4, (ptr b9)), (9, (i64 ((i : Nat) : Int))), (63, (Value.bool (decide (((i : Nat) : Int) < ((K.length : Nat) : Int)))))] 7 ?_
     refine od ?_
     refine q_cond (o := .tmp 63) (b := (decide (((i : Nat) : Int) < ((K.length : Nat) : Int)))) (by kernel_rfl) rfl (fun h99 => ?_) (fun h99 => ?_)
     ·rw [h99]
      have p100 : ((i : Nat) : Int) < ((K.length : Nat) : Int) := of_decide_eq_true h99
      obtain ⟨x, hx⟩ : ∃ y, K[i]? = some y := ⟨_, List.getElem?_eq_getElem (by omega)⟩
      obtain ⟨rb101, ro102, hA103⟩ := Rd.addr (OwnT.rd hC1) (by omega)
      refine q_skip (by kernel_rfl) ?_
      refine qs ?_
      refine q_block (id := 2) (by kernel_rfl) ?_
      refine qs ?_
      refine qg ?_
      refine og 3 [(0, (ptr r)), (3, (ptr b1)), (4, (ptr b9)), (9, (i64 ((i : Nat) : Int))), (63, (Value.bool true)), (68, (Value.pointer (some ⟨r, 1, none⟩)))] 3 ?_
      refine Ops.go (v := (Value.slice B K.length d)) (by kernel_rfl) (Runs.load (t := 43) (a := ⟨r, 1, none⟩) (by kernel_rfl) (H96.loads (by kernel_rfl))) (d := (some 69)) (by kernel_rfl) rfl ?_
      refine og 1 [(0, (ptr r)), (3, (ptr b1)), (4, (ptr b9)), (9, (i64 ((i : Nat) : Int))), (63, (Value.bool true)), (69, (Value.slice B K.length d)), (70, (i64 ((i : Nat) : Int)))] 5 ?_
      refine Ops.go (by kernel_rfl) (Runs.ixSliceE (k := IntKind.i64) (t := 43) (len := K.length) (cap := d) (s := 10) (off' := ro102 + i * 10) (i := ((i : Nat) : Int)) hA103 (by kernel_rfl) (by kernel_rfl) (by omega) (by omega) (by omega)) (d := (some 71)) (by kernel_rfl) rfl ?_
      refine Ops.go (v := (agg [(i64 x.op.kind), (Value.string (str x.op.frm)), (Value.string (str x.op.to)), (i64 x.op.amount), (Value.string (str x.op.key)), (i64 x.op.slot), (i64 x.op.shard), (i64 x.why), (i64 0), (Value.slice none 0 0)])) (by kernel_rfl) (Runs.load (t := 90) (a := ⟨rb101, ro102 + i * 10, none⟩) (by kernel_rfl) (RdT.ld (f := kref) (x := x) kref10 (OwnT.rd hC1) (by kernel_rfl) (by kernel_rfl) hA103 hx)) (d := (some 72)) (by kernel_rfl) rfl ?_
      refine Ops.new (o := rowL [(i64 0), (Value.string ByteArray.empty), (Value.string ByteArray.empty), (i64 0), (Value.string ByteArray.empty), (i64 0), (i64 0), (i64 0), (i64 0), (Value.slice none 0 0)] 90) (V := fun b => (ptr b)) (by kernel_rfl) (d := (some 10)) (by kernel_rfl) (fun b => rfl) (fun b104 w105 hb106 H107 K108 hs109 => ?_)
      have lb104r : r < b104 := by have := H96.lt; omega
      have lb104b1 : b1 < b104 := by have := H97.lt; omega
      have lb104b9 : b9 < b104 := by have := H98.lt; omega
      have nb104 : w.heap.size ≤ b104 := by have := K95.size; omega
      have ob110 : ∀ i, ((Value.slice A S.length c)).ownBlock = some i → i < b104 := fun i hi => by have := (World.ownsRow.lt hC0 i hi).2; omega
      have ob111 : ∀ i, ((Value.slice B K.length d)).ownBlock = some i → i < b104 := fun i hi => by have := (World.ownsRow.lt hC1 i hi).2; omega
      replace K95 := K95.trans K108 (U := (fun i => i = r ∨ ((Value.slice A S.length c)).ownBlock = some i ∨ ((Value.slice B K.length d)).ownBlock = some i)) (fun i h1 h2 => h2) (fun i h1 h2 => by exact h2.elim)
      replace H96 := H96.keep K108 (fun h => h)
      replace H97 := H97.keep K108 (fun h => h)
      replace H98 := H98.keep K108 (fun h => h)
      replace hC0 := own_keep0 hC0 K108
      replace hC1 := own_keep0 hC1 K108
      clear K108 hs109
      refine Ops.put (t := 90) (b := b104) (off := 0) (v := (agg [(i64 x.op.kind), (Value.string (str x.op.frm)), (Value.string (str x.op.to)), (i64 x.op.amount), (Value.string (str x.op.key)), (i64 x.op.slot), (i64 x.op.shard), (i64 x.why), (i64 0), (Value.slice none 0 0)])) (ys := [(i64 x.op.kind), (Value.string (str x.op.frm)), (Value.string (str x.op.to)), (i64 x.op.amount), (Value.string (str x.op.key)), (i64 x.op.slot), (i64 x.op.shard), (i64 x.why), (i64 0), (Value.slice none 0 0)]) (by kernel_rfl) (by kernel_rfl) H107 (by kernel_rfl) (d := none) (by kernel_rfl) rfl (fun w112 H113 K114 => ?_)
      clear H107
      replace K95 := K95.trans K114 (U := (fun i => i = r ∨ ((Value.slice A S.length c)).ownBlock = some i ∨ ((Value.slice B K.length d)).ownBlock = some i)) (fun i h1 h2 => h2) (fun i h1 h2 => by have h2 : i = b104 := h2; exfalso; omega)
      replace H96 := H96.keep K114 (by intro h; change r = b104 at h; omega)
      replace H97 := H97.keep K114 (by intro h; change b1 = b104 at h; omega)
      replace H98 := H98.keep K114 (by intro h; change b9 = b104 at h; omega)
      replace hC0 := own_keep hC0 K114 (fun i hi hs => by have hs : i = b104 := hs; have := ob110 i hi; omega)
      replace hC1 := own_keep hC1 K114 (fun i hi hs => by have hs : i = b104 := hs; have := ob111 i hi; omega)
      clear K114
      refine od ?_
      refine qs ?_
      refine qg ?_
      refine og 2 [(0, (ptr r)), (3, (ptr b1)), (4, (ptr b9)), (9, (i64 ((i : Nat) : Int))), (10, (ptr b104)), (63, (Value.bool true)), (74, (Value.pointer (some ⟨b104, 1, none⟩)))] 2 ?_
      refine Ops.go (v := (Value.string (str x.op.frm))) (by kernel_rfl) (Runs.load (t := 9) (a := ⟨b104, 1, none⟩) (by kernel_rfl) (H113.loads (by kernel_rfl))) (d := (some 75)) (by kernel_rfl) rfl ?_
      refine og 1 [(0, (ptr r)), (3, (ptr b1)), (4, (ptr b9)), (9, (i64 ((i : Nat) : Int))), (10, (ptr b104)), (63, (Value.bool true)), (75, (Value.string (str x.op.frm))), (76, (Value.pointer (some ⟨b1, 1, none⟩)))] 4 ?_
      refine Ops.go (v := (Value.string (str o.frm))) (by kernel_rfl) (Runs.load (t := 9) (a := ⟨b1, 1, none⟩) (by kernel_rfl) (H97.loads (by kernel_rfl))) (d := (some 77)) (by kernel_rfl) rfl ?_
      refine Ops.go (v := (Value.bool (x.op.frm == o.frm))) (by kernel_rfl) (Runs.streq (t := 9) (by kernel_rfl)) (d := (some 78)) (by kernel_rfl) rfl ?_
      refine og 1 [(0, (ptr r)), (3, (ptr b1)), (4, (ptr b9)), (9, (i64 ((i : Nat) : Int))), (10, (ptr b104)), (63, (Value.bool true)), (79, (Value.bool (x.op.frm == o.frm)))] 7 ?_
      refine Ops.split (x.op.frm == o.frm) (fun h115 => ?_) (fun h115 => ?_)
      ·rw [h115]
       have p116 : (x.op.frm == o.frm) = true := h115
       refine og 2 [(0, (ptr r)), (3, (ptr b1)), (4, (ptr b9)), (9, (i64 ((i : Nat) : Int))), (10, (ptr b104)), (63, (Value.bool true)), (79, (Value.bool true)), (81, (Value.pointer (some ⟨b104, 4, none⟩)))] 9 ?_
       refine Ops.go (v := (Value.string (str x.op.key))) (by kernel_rfl) (Runs.load (t := 9) (a := ⟨b104, 4, none⟩) (by kernel_rfl) (H113.loads (by kernel_rfl))) (d := (some 82)) (by kernel_rfl) rfl ?_
       refine og 1 [(0, (ptr r)), (3, (ptr b1)), (4, (ptr b9)), (9, (i64 ((i : Nat) : Int))), (10, (ptr b104)), (63, (Value.bool true)), (79, (Value.bool true)), (82, (Value.string (str x.op.key))), (83, (Value.pointer (some ⟨b1, 4, none⟩)))] 11 ?_
       refine Ops.go (v := (Value.string (str o.key))) (by kernel_rfl) (Runs.load (t := 9) (a := ⟨b1, 4, none⟩) (by kernel_rfl) (H97.loads (by kernel_rfl))) (d := (some 84)) (by kernel_rfl) rfl ?_
       refine Ops.go (v := (Value.bool (x.op.key == o.key))) (by kernel_rfl) (Runs.streq (t := 9) (by kernel_rfl)) (d := (some 85)) (by kernel_rfl) rfl ?_
       refine og 1 [(0, (ptr r)), (3, (ptr b1)), (4, (ptr b9)), (9, (i64 ((i : Nat) : Int))), (10, (ptr b104)), (63, (Value.bool true)), (86, (Value.bool (x.op.key == o.key)))] 14 ?_
       refine od ?_
       refine q_cond (o := .tmp 86) (b := (x.op.key == o.key)) (by kernel_rfl) rfl (fun h117 => ?_) (fun h117 => ?_)
       ·rw [h117]
        have p118 : (x.op.key == o.key) = true := h117
        refine qs ?_
        refine qs ?_
        refine qg ?_
        refine og 1 [(0, (ptr r)), (3, (ptr b1)), (4, (ptr b9)), (9, (i64 ((i : Nat) : Int))), (10, (ptr b104)), (63, (Value.bool true)), (86, (Value.bool true)), (87, (ptr b104))] 1 ?_
        refine Ops.go (v := (agg [(i64 x.op.kind), (Value.string (str x.op.frm)), (Value.string (str x.op.to)), (i64 x.op.amount), (Value.string (str x.op.key)), (i64 x.op.slot), (i64 x.op.shard)])) (by kernel_rfl) (Runs.load (t := 24) (a := ⟨b104, 0, none⟩) (by kernel_rfl) (H113.loads (by kernel_rfl))) (d := (some 88)) (by kernel_rfl) rfl ?_
        refine Ops.go (v := (agg [(i64 o.kind), (Value.string (str o.frm)), (Value.string (str ((plainE o).to))), (i64 ((plainE o).amount)), (Value.string (str o.key)), (i64 0), (i64 0)])) (by kernel_rfl) (Runs.load (t := 24) (a := ⟨b1, 0, none⟩) (by kernel_rfl) (H97.loads (by kernel_rfl))) (d := (some 89)) (by kernel_rfl) rfl ?_
        refine Ops.go (v := (Value.bool (!(aggB [(i64 x.op.kind), (Value.string (str x.op.frm)), (Value.string (str x.op.to)), (i64 x.op.amount), (Value.string (str x.op.key)), (i64 x.op.slot), (i64 x.op.shard)] [(i64 o.kind), (Value.string (str o.frm)), (Value.string (str ((plainE o).to))), (i64 ((plainE o).amount)), (Value.string (str o.key)), (i64 0), (i64 0)])))) (by kernel_rfl) (Runs.aggne (t := 24) (by kernel_rfl) (by kernel_rfl)) (d := (some 90)) (by kernel_rfl) rfl ?_
        refine od ?_
        refine q_cond (o := .tmp 90) (b := (!(aggB [(i64 x.op.kind), (Value.string (str x.op.frm)), (Value.string (str x.op.to)), (i64 x.op.amount), (Value.string (str x.op.key)), (i64 x.op.slot), (i64 x.op.shard)] [(i64 o.kind), (Value.string (str o.frm)), (Value.string (str ((plainE o).to))), (i64 ((plainE o).amount)), (Value.string (str o.key)), (i64 0), (i64 0)]))) (by kernel_rfl) rfl (fun h119 => ?_) (fun h119 => ?_)
        ·rw [h119]
         have p120 : (aggB [(i64 x.op.kind), (Value.string (str x.op.frm)), (Value.string (str x.op.to)), (i64 x.op.amount), (Value.string (str x.op.key)), (i64 x.op.slot), (i64 x.op.shard)] [(i64 o.kind), (Value.string (str o.frm)), (Value.string (str ((plainE o).to))), (i64 ((plainE o).amount)), (Value.string (str o.key)), (i64 0), (i64 0)]) = false := (bnot_true h119)
         have hfk : findK K o.frm o.key = some x := findK_is hL hx (by simp_all) (by simp_all)
         refine qs ?_
         refine qg ?_
         refine og 1 [(0, (ptr r)), (3, (ptr b1)), (4, (ptr b9)), (9, (i64 ((i : Nat) : Int))), (10, (ptr b104)), (63, (Value.bool true)), (86, (Value.bool true)), (90, (Value.bool true)), (91, (agg [(i64 45), (i64 0), (Value.slice none 0 0)]))] 1 ?_
         refine Ops.put (t := 30) (b := b9) (off := 0) (v := (agg [(i64 45), (i64 0), (Value.slice none 0 0)])) (ys := [(i64 45), (i64 0), (Value.slice none 0 0)]) (by kernel_rfl) (by kernel_rfl) H98 (by kernel_rfl) (d := none) (by kernel_rfl) rfl (fun w121 H122 K123 => ?_)
         clear H98
         replace K95 := K95.trans K123 (U := (fun i => i = r ∨ ((Value.slice A S.length c)).ownBlock = some i ∨ ((Value.slice B K.length d)).ownBlock = some i)) (fun i h1 h2 => h2) (fun i h1 h2 => by have h2 : i = b9 := h2; exfalso; omega)
         replace H96 := H96.keep K123 (by intro h; change r = b9 at h; omega)
         replace H97 := H97.keep K123 (by intro h; change b1 = b9 at h; omega)
         replace H113 := H113.keep K123 (by intro h; change b104 = b9 at h; omega)
         replace hC0 := own_keep hC0 K123 (fun i hi hs => by have hs : i = b9 := hs; have := ob15 i hi; omega)
         replace hC1 := own_keep hC1 K123 (fun i hi hs => by have hs : i = b9 := hs; have := ob16 i hi; omega)
         clear K123
         refine od ?_
         refine q_ret (by kernel_rfl) ?_
         refine ⟨(agg [(i64 45), (i64 0), (Value.slice none 0 0)]), retv_cell rfl rfl (H122.loads (by kernel_rfl)), ?_⟩
         have e0 := do_other (S := S) (K := K) (o := o) hw (by omega) (by omega) (by omega) hfk (bnot_true h119)
         obtain ⟨e1, e2, e3⟩ := e0
         rw [e1, e2, e3]
         exact ⟨_, _, _, _, none, 0, rfl, K95, H96, hC0, hC1, (OwnT.nil _ _ _ _ _), (fun _ h => .inl h), (fun _ h => .inl h), hnn, (fun i h => by cases h), (fun i h => by cases h)⟩
        ·rw [h119]
         have p124 : (aggB [(i64 x.op.kind), (Value.string (str x.op.frm)), (Value.string (str x.op.to)), (i64 x.op.amount), (Value.string (str x.op.key)), (i64 x.op.slot), (i64 x.op.shard)] [(i64 o.kind), (Value.string (str o.frm)), (Value.string (str ((plainE o).to))), (i64 ((plainE o).amount)), (Value.string (str o.key)), (i64 0), (i64 0)]) = true := (bnot_false h119)
         have hfk : findK K o.frm o.key = some x := findK_is hL hx (by simp_all) (by simp_all)
         refine q_skip (by kernel_rfl) ?_
         refine qs ?_
         refine qg ?_
         refine og 1 [(0, (ptr r)), (3, (ptr b1)), (4, (ptr b9)), (9, (i64 ((i : Nat) : Int))), (10, (ptr b104)), (63, (Value.bool true)), (86, (Value.bool true)), (90, (Value.bool false)), (92, (Value.pointer (some ⟨b104, 7, none⟩)))] 1 ?_
         refine Ops.go (v := (agg [(i64 x.why), (i64 0), (Value.slice none 0 0)])) (by kernel_rfl) (Runs.load (t := 30) (a := ⟨b104, 7, none⟩) (by kernel_rfl) (H113.loads (by kernel_rfl))) (d := (some 93)) (by kernel_rfl) rfl ?_
         refine Ops.put (t := 30) (b := b9) (off := 0) (v := (agg [(i64 x.why), (i64 0), (Value.slice none 0 0)])) (ys := [(i64 x.why), (i64 0), (Value.slice none 0 0)]) (by kernel_rfl) (by kernel_rfl) H98 (by kernel_rfl) (d := none) (by kernel_rfl) rfl (fun w125 H126 K127 => ?_)
         clear H98
         replace K95 := K95.trans K127 (U := (fun i => i = r ∨ ((Value.slice A S.length c)).ownBlock = some i ∨ ((Value.slice B K.length d)).ownBlock = some i)) (fun i h1 h2 => h2) (fun i h1 h2 => by have h2 : i = b9 := h2; exfalso; omega)
         replace H96 := H96.keep K127 (by intro h; change r = b9 at h; omega)
         replace H97 := H97.keep K127 (by intro h; change b1 = b9 at h; omega)
         replace H113 := H113.keep K127 (by intro h; change b104 = b9 at h; omega)
         replace hC0 := own_keep hC0 K127 (fun i hi hs => by have hs : i = b9 := hs; have := ob15 i hi; omega)
         replace hC1 := own_keep hC1 K127 (fun i hi hs => by have hs : i = b9 := hs; have := ob16 i hi; omega)
         clear K127
         refine od ?_
         refine q_ret (by kernel_rfl) ?_
         refine ⟨(agg [(i64 x.why), (i64 0), (Value.slice none 0 0)]), retv_cell rfl rfl (H126.loads (by kernel_rfl)), ?_⟩
         have e0 := do_again (S := S) (K := K) (o := o) hw (by omega) (by omega) (by omega) hfk (bnot_false h119)
         obtain ⟨e1, e2, e3⟩ := e0
         rw [e1, e2, e3]
         exact ⟨_, _, _, _, none, 0, rfl, K95, H96, hC0, hC1, (OwnT.nil _ _ _ _ _), (fun _ h => .inl h), (fun _ h => .inl h), hnn, (fun i h => by cases h), (fun i h => by cases h)⟩
       ·rw [h117]
        have p128 : (x.op.key == o.key) = false := h117
        refine q_skip (by kernel_rfl) ?_
        refine qg ?_
        refine og 2 [(0, (ptr r)), (3, (ptr b1)), (4, (ptr b9)), (9, (i64 ((i : Nat) : Int))), (10, (ptr b104)), (63, (Value.bool true)), (65, (i64 (IntKind.i64.wrap (((i : Nat) : Int) + 1)))), (86, (Value.bool false))] 2 ?_
        have e129 : IntKind.i64.wrap (((i : Nat) : Int) + 1) = ((i + 1 : Nat) : Int) := by rw [wrap_i64 (by omega) (by omega)]; omega
        rw [e129]
        clear e129
        refine og 1 [(0, (ptr r)), (3, (ptr b1)), (4, (ptr b9)), (9, (i64 ((i + 1 : Nat) : Int))), (10, (ptr b104)), (63, (Value.bool true)), (86, (Value.bool false))] 3 ?_
        refine Ops.keep (R := [(0, (ptr r)), (3, (ptr b1)), (4, (ptr b9)), (9, (i64 ((i + 1 : Nat) : Int)))]) (by kernel_rfl) ?_
        refine od ?_
        exact ⟨i + 1, ⟨rfl, hC0, hC1, (by omega), (no_step hx hno (by first | (simp_all; done) | (rintro ⟨q1, q2⟩; simp_all))), K95, H96, H97, H98⟩, (show K.length - (i + 1) < K.length - i from by omega)⟩
      ·rw [h115]
       have p130 : (x.op.frm == o.frm) = false := h115
       refine og 7 [(0, (ptr r)), (3, (ptr b1)), (4, (ptr b9)), (9, (i64 ((i : Nat) : Int))), (10, (ptr b104)), (63, (Value.bool true)), (86, (Value.bool false))] 14 ?_
       refine od ?_
       refine q_else (o := .tmp 86) (by kernel_rfl) rfl ?_
       refine q_skip (by kernel_rfl) ?_
       refine qg ?_
       refine og 2 [(0, (ptr r)), (3, (ptr b1)), (4, (ptr b9)), (9, (i64 ((i : Nat) : Int))), (10, (ptr b104)), (63, (Value.bool true)), (65, (i64 (IntKind.i64.wrap (((i : Nat) : Int) + 1)))), (86, (Value.bool false))] 2 ?_
       have e131 : IntKind.i64.wrap (((i : Nat) : Int) + 1) = ((i + 1 : Nat) : Int) := by rw [wrap_i64 (by omega) (by omega)]; omega
       rw [e131]
       clear e131
       refine og 1 [(0, (ptr r)), (3, (ptr b1)), (4, (ptr b9)), (9, (i64 ((i + 1 : Nat) : Int))), (10, (ptr b104)), (63, (Value.bool true)), (86, (Value.bool false))] 3 ?_
       refine Ops.keep (R := [(0, (ptr r)), (3, (ptr b1)), (4, (ptr b9)), (9, (i64 ((i + 1 : Nat) : Int)))]) (by kernel_rfl) ?_
       refine od ?_
       exact ⟨i + 1, ⟨rfl, hC0, hC1, (by omega), (no_step hx hno (by first | (simp_all; done) | (rintro ⟨q1, q2⟩; simp_all))), K95, H96, H97, H98⟩, (show K.length - (i + 1) < K.length - i from by omega)⟩
     ·rw [h99]
      have p132 : ¬ (((i : Nat) : Int) < ((K.length : Nat) : Int)) := of_decide_eq_false h99
      have hfk : findK K o.frm o.key = none := findK_no (fun j y hy => hno j y (by have := (List.getElem?_eq_some_iff.1 hy).1; omega) hy)
      refine q_exit (id := 1) (by kernel_rfl) ?_
      refine qs ?_
      refine qg ?_
      refine og 1 [(0, (ptr r)), (3, (ptr b1)), (4, (ptr b9)), (94, (ptr r))] 1 ?_
      refine Ops.go (v := (agg [(i64 o.kind), (Value.string (str o.frm)), (Value.string (str ((plainE o).to))), (i64 ((plainE o).amount)), (Value.string (str o.key)), (i64 0), (i64 0)])) (by kernel_rfl) (Runs.load (t := 24) (a := ⟨b1, 0, none⟩) (by kernel_rfl) (H97.loads (by kernel_rfl))) (d := (some 95)) (by kernel_rfl) rfl ?_
      refine Ops.call (by kernel_rfl) (d := (some 96)) (by kernel_rfl) (Ract_calls _ base r A c S B d K (plainE o) H96 hC0 hC1 hne hne2 hnn hS (Nat.le_trans hbw K95.size) hwa.1 hro (fun q => by rw [plainE_amount o q]; exact hwa.2.2.2.1 q) (fun q => by rw [plainE_to o q]; exact (hwa.2.2.2.2 q).2) hSl) ?_
      rintro _ w135 ⟨A133, c134, rfl, K136, H137, hO138, hg139⟩
      have ob140 : ∀ i, ((Value.slice A133 ((actS S (plainE o)).length) c134)).ownBlock = some i → i ≠ r := fun i hi => by rcases hg139 i hi with h | h; (have := hne i h; omega); (have := H96.lt; omega)
      have ob141 : ∀ i, ((Value.slice A133 ((actS S (plainE o)).length) c134)).ownBlock = some i → i ≠ b1 := fun i hi => by rcases hg139 i hi with h | h; (have := ob7 i h; omega); (have := H97.lt; omega)
      have ob142 : ∀ i, ((Value.slice A133 ((actS S (plainE o)).length) c134)).ownBlock = some i → i ≠ b9 := fun i hi => by rcases hg139 i hi with h | h; (have := ob15 i h; omega); (have := H98.lt; omega)
      have oo143 : ∀ i, ((Value.slice B K.length d)).ownBlock = some i → ((Value.slice A133 ((actS S (plainE o)).length) c134)).ownBlock = some i → False := fun i hi hs => by rcases hg139 i hs with h | h; (exact (fun i h h2 => hnn i h2 h) i hi h); (have := (World.ownsRow.lt hC1 i hi).2; omega)
      have oo144 : ∀ i, ((Value.slice A133 ((actS S (plainE o)).length) c134)).ownBlock = some i → ((Value.slice B K.length d)).ownBlock = some i → False := fun i hi hs => oo143 i hs hi
      have hgw145 : ∀ i, ((Value.slice A133 ((actS S (plainE o)).length) c134)).ownBlock = some i → ((Value.slice A S.length c)).ownBlock = some i ∨ w.heap.size ≤ i := fun i hi => (hg139 i hi).elim .inl fun h => .inr (Nat.le_trans K95.size h)
      refine ⟨_, _, rfl, rfl, ?_⟩
      replace K95 := K95.trans K136 (U := (fun i => i = r ∨ ((Value.slice A S.length c)).ownBlock = some i ∨ ((Value.slice B K.length d)).ownBlock = some i)) (fun i h1 h2 => h2) (fun i h1 h2 => by have h2 : i = r ∨ ((Value.slice A S.length c)).ownBlock = some i := h2; rcases h2 with h2 | h2; (exact .inl h2); (exact .inr (.inl h2)))
      replace H97 := H97.keep K136 (by intro h; change b1 = r ∨ ((Value.slice A S.length c)).ownBlock = some b1 at h; rcases h with h | h; (omega); (have := ob7 b1 h; omega))
      replace H98 := H98.keep K136 (by intro h; change b9 = r ∨ ((Value.slice A S.length c)).ownBlock = some b9 at h; rcases h with h | h; (omega); (have := ob15 b9 h; omega))
      clear hC0
      replace hC1 := own_keep hC1 K136 (fun i hi hs => by have hs : i = r ∨ ((Value.slice A S.length c)).ownBlock = some i := hs; rcases hs with hs | hs; (have := hne2 i hi; omega); (exact (fun i h h2 => hnn i h2 h) i hi hs))
      clear K136
      refine og 1 [(0, (ptr r)), (3, (ptr b1)), (4, (ptr b9)), (97, (agg [(i64 (actE S (plainE o))), (i64 0), (Value.slice none 0 0)]))] 4 ?_
      refine Ops.new (o := rowL [(i64 0), (i64 0), (Value.slice none 0 0)] 30) (V := fun b => (ptr b)) (by kernel_rfl) (d := (some 11)) (by kernel_rfl) (fun b => rfl) (fun b146 w147 hb148 H149 K150 hs151 => ?_)
      have lb146r : r < b146 := by have := H137.lt; omega
      have lb146b1 : b1 < b146 := by have := H97.lt; omega
      have lb146b9 : b9 < b146 := by have := H98.lt; omega
      have nb146 : w.heap.size ≤ b146 := by have := K95.size; omega
      have ob152 : ∀ i, ((Value.slice B K.length d)).ownBlock = some i → i < b146 := fun i hi => by have := (World.ownsRow.lt hC1 i hi).2; omega
      have ob153 : ∀ i, ((Value.slice A133 ((actS S (plainE o)).length) c134)).ownBlock = some i → i < b146 := fun i hi => by have := (World.ownsRow.lt hO138 i hi).2; omega
      replace K95 := K95.trans K150 (U := (fun i => i = r ∨ ((Value.slice A S.length c)).ownBlock = some i ∨ ((Value.slice B K.length d)).ownBlock = some i)) (fun i h1 h2 => h2) (fun i h1 h2 => by exact h2.elim)
      replace H137 := H137.keep K150 (fun h => h)
      replace H97 := H97.keep K150 (fun h => h)
      replace H98 := H98.keep K150 (fun h => h)
      replace hC1 := own_keep0 hC1 K150
      replace hO138 := own_keep0 hO138 K150
      clear K150 hs151
      refine Ops.put (t := 30) (b := b146) (off := 0) (v := (agg [(i64 (actE S (plainE o))), (i64 0), (Value.slice none 0 0)])) (ys := [(i64 (actE S (plainE o))), (i64 0), (Value.slice none 0 0)]) (by kernel_rfl) (by kernel_rfl) H149 (by kernel_rfl) (d := none) (by kernel_rfl) rfl (fun w154 H155 K156 => ?_)
      clear H149
      replace K95 := K95.trans K156 (U := (fun i => i = r ∨ ((Value.slice A S.length c)).ownBlock = some i ∨ ((Value.slice B K.length d)).ownBlock = some i)) (fun i h1 h2 => h2) (fun i h1 h2 => by have h2 : i = b146 := h2; exfalso; omega)
      replace H137 := H137.keep K156 (by intro h; change r = b146 at h; omega)
      replace H97 := H97.keep K156 (by intro h; change b1 = b146 at h; omega)
      replace H98 := H98.keep K156 (by intro h; change b9 = b146 at h; omega)
      replace hC1 := own_keep hC1 K156 (fun i hi hs => by have hs : i = b146 := hs; have := ob152 i hi; omega)
      replace hO138 := own_keep hO138 K156 (fun i hi hs => by have hs : i = b146 := hs; have := ob153 i hi; omega)
      clear K156
      refine od ?_
      refine qs ?_
      refine q_draw (fun wz => Keeps (fun i => ((Value.slice B K.length d)).ownBlock = some i ∨ i = r) w154 wz) 13 (by kernel_rfl) (by kernel_rfl) (by kernel_rfl) (fun w157 K158 _ _ => ⟨(K158.mono (fun _ _ h => h.elim)), ?_⟩)
      replace K95 := K95.trans K158 (U := (fun i => i = r ∨ ((Value.slice A S.length c)).ownBlock = some i ∨ ((Value.slice B K.length d)).ownBlock = some i)) (fun i h1 h2 => h2) (fun i h1 h2 => by exact h2.elim)
      replace H137 := H137.keep K158 (fun h => h)
      replace H97 := H97.keep K158 (fun h => h)
      replace H98 := H98.keep K158 (fun h => h)
      replace H155 := H155.keep K158 (fun h => h)
      replace hC1 := own_keep0 hC1 K158
      replace hO138 := own_keep0 hO138 K158
      refine Dr.strong (S' := (fun wz => Keeps (fun i => ((Value.slice B K.length d)).ownBlock = some i ∨ i = r) w157 wz)) ((Keeps.refl w157).mono (fun _ _ h => h.elim)) (fun wz hx => K158.trans hx (fun i _ h => h.elim) (fun _ _ h => h)) ?_
      clear K158
      refine Dr.takes (fuel' := 9) (is' := [3, 2, 1, 0]) [0, 1, 2, 3] [(3, (ptr b1)), (4, (ptr b9)), (11, (ptr b146)), (98, (ptr r)), (101, (Value.pointer (some ⟨r, 1, none⟩)))] (by kernel_rfl) rfl (by kernel_rfl) ?_
      refine Dr.take (i := 5) (v := (agg [(i64 o.kind), (Value.string (str o.frm)), (Value.string (str ((plainE o).to))), (i64 ((plainE o).amount)), (Value.string (str o.key)), (i64 0), (i64 0)])) (by kernel_rfl) (by kernel_rfl) (fun wz hS => Runs.load (t := 24) (a := ⟨b1, 0, none⟩) (by kernel_rfl) ((H97.keep hS (by intro h; change ((Value.slice B K.length d)).ownBlock = some b1 ∨ b1 = r at h; rcases h with h | h; (have := ob8 b1 h; omega); (omega))).loads (by kernel_rfl))) (d := (some 103)) (by kernel_rfl) rfl ?_
      refine Dr.take (i := 6) (v := (agg [(i64 (actE S (plainE o))), (i64 0), (Value.slice none 0 0)])) (by kernel_rfl) (by kernel_rfl) (fun wz hS => Runs.load (t := 30) (a := ⟨b146, 0, none⟩) (by kernel_rfl) ((H155.keep hS (by intro h; change ((Value.slice B K.length d)).ownBlock = some b146 ∨ b146 = r at h; rcases h with h | h; (have := ob152 b146 h; omega); (omega))).loads (by kernel_rfl))) (d := (some 104)) (by kernel_rfl) rfl ?_
      refine Dr.takes (fuel' := 6) (is' := [7, 6, 5, 3, 2, 1, 0]) [7] [(4, (ptr b9)), (11, (ptr b146)), (98, (ptr r)), (101, (Value.pointer (some ⟨r, 1, none⟩))), (105, (agg [(i64 o.kind), (Value.string (str o.frm)), (Value.string (str ((plainE o).to))), (i64 ((plainE o).amount)), (Value.string (str o.key)), (i64 0), (i64 0), (i64 (actE S (plainE o))), (i64 0), (Value.slice none 0 0)]))] (by kernel_rfl) rfl (by kernel_rfl) ?_
      refine Dr.float [(4, (ptr b9)), (11, (ptr b146)), (98, (ptr r)), (102, (Value.slice B K.length d)), (105, (agg [(i64 o.kind), (Value.string (str o.frm)), (Value.string (str ((plainE o).to))), (i64 ((plainE o).amount)), (Value.string (str o.key)), (i64 0), (i64 0), (i64 (actE S (plainE o))), (i64 0), (Value.slice none 0 0)]))] 4 ?_
      refine DrB.new (i := 4) (j := 8) (t := 43) (a := ⟨r, 1, none⟩) (v := (Value.slice B K.length d)) (o := rowL [(i64 o.kind), (Value.string (str o.frm)), (Value.string (str ((plainE o).to))), (i64 ((plainE o).amount)), (Value.string (str o.key)), (i64 0), (i64 0), (i64 (actE S (plainE o))), (i64 0), (Value.slice none 0 0)] 90) (V := fun b => (Value.slice (some ⟨b, 0, none⟩) 1 1)) (by kernel_rfl) (.inl rfl) (by kernel_rfl) (by kernel_rfl) (by kernel_rfl) (by kernel_rfl) (di := (some 102)) (by kernel_rfl) (by kernel_rfl) (by kernel_rfl) (by kernel_rfl) (dj := (some 106)) (by kernel_rfl) (fun b => rfl) (fun b => rfl) (H137.loads (by kernel_rfl)) ((Keeps.refl _).mono (fun _ _ h => h.elim)) (fun b159 w160 hb161 H162 K163 hs164 => ?_)
      have lb159r : r < b159 := by have := H137.lt; omega
      have lb159b1 : b1 < b159 := by have := H97.lt; omega
      have lb159b9 : b9 < b159 := by have := H98.lt; omega
      have lb159b146 : b146 < b159 := by have := H155.lt; omega
      have nb159 : w.heap.size ≤ b159 := by have := K95.size; omega
      have ob165 : ∀ i, ((Value.slice B K.length d)).ownBlock = some i → i < b159 := fun i hi => by have := (World.ownsRow.lt hC1 i hi).2; omega
      have ob166 : ∀ i, ((Value.slice A133 ((actS S (plainE o)).length) c134)).ownBlock = some i → i < b159 := fun i hi => by have := (World.ownsRow.lt hO138 i hi).2; omega
      replace K95 := K95.trans K163 (U := (fun i => i = r ∨ ((Value.slice A S.length c)).ownBlock = some i ∨ ((Value.slice B K.length d)).ownBlock = some i)) (fun i h1 h2 => h2) (fun i h1 h2 => by exact h2.elim)
      replace H137 := H137.keep K163 (fun h => h)
      replace H97 := H97.keep K163 (fun h => h)
      replace H98 := H98.keep K163 (fun h => h)
      replace H155 := H155.keep K163 (fun h => h)
      replace hC1 := own_keep0 hC1 K163
      replace hO138 := own_keep0 hO138 K163
      refine ⟨(K163.mono (fun _ _ h => h.elim)), ?_⟩
      refine DrB.strong (S' := (fun wz => Keeps (fun i => ((Value.slice B K.length d)).ownBlock = some i ∨ i = r) w160 wz)) ((Keeps.refl w160).mono (fun _ _ h => h.elim)) (fun wz hx => K163.trans hx (fun i _ h => h.elim) (fun _ _ h => h)) ?_
      clear K163 hs164
      refine DrB.end_ (t := 43) (a := ⟨r, 1, none⟩) (v := (Value.slice B K.length d)) (R := [(4, (ptr b9)), (11, (ptr b146)), (98, (ptr r)), (102, (Value.slice B K.length d)), (106, (Value.slice (some ⟨b159, 0, none⟩) 1 1))]) (by kernel_rfl) (by kernel_rfl) (by kernel_rfl) (di := (some 102)) (by kernel_rfl) (by kernel_rfl) (by kernel_rfl) (H137.loads (by kernel_rfl)) ((Keeps.refl _).mono (fun _ _ h => h.elim)) ?_
      obtain ⟨v167, w168, hr169, hO170, hK171, hg172⟩ := OwnT.app (ty := 43) kref10 kref_one tyRK hC1 (show RdT _ 10 kref _ [(⟨(plainE o), actE S (plainE o)⟩ : KeptM)] from Rd.lit H162 (n := 1) rfl (by decide)) (by (try simp only [List.length_append]); (try simp only [List.length_cons]); (try simp only [List.length_nil]); omega) (by (try simp only [List.length_append]); (try simp only [List.length_cons]); (try simp only [List.length_nil]); omega) (Nat.le_trans hbw K95.size)
      obtain ⟨A174, c175, rfl⟩ := RdT.form kref10 (by decide) (OwnT.rd hO170)
      obtain ⟨l176, hl177⟩ : ∃ z, z = K ++ [(⟨(plainE o), actE S (plainE o)⟩ : KeptM)] := ⟨_, rfl⟩
      rw [← hl177] at hr169 hO170 hg172
      have hn178 : l176.length = K.length + 1 := by simp [hl177]
      have ob179 : ∀ i, ((Value.slice A174 l176.length c175)).ownBlock = some i → i ≠ r := fun i hi => by rcases hg172 i hi with h | h; (have := hne2 i h; omega); (have := H137.lt; omega)
      have ob180 : ∀ i, ((Value.slice A174 l176.length c175)).ownBlock = some i → i ≠ b1 := fun i hi => by rcases hg172 i hi with h | h; (have := ob8 i h; omega); (have := H97.lt; omega)
      have ob181 : ∀ i, ((Value.slice A174 l176.length c175)).ownBlock = some i → i ≠ b9 := fun i hi => by rcases hg172 i hi with h | h; (have := ob16 i h; omega); (have := H98.lt; omega)
      have ob182 : ∀ i, ((Value.slice A174 l176.length c175)).ownBlock = some i → i ≠ b146 := fun i hi => by rcases hg172 i hi with h | h; (have := ob152 i h; omega); (have := H155.lt; omega)
      have ob183 : ∀ i, ((Value.slice A174 l176.length c175)).ownBlock = some i → i ≠ b159 := fun i hi => by rcases hg172 i hi with h | h; (have := ob165 i h; omega); (have := H162.lt; omega)
      have oo184 : ∀ i, ((Value.slice A133 ((actS S (plainE o)).length) c134)).ownBlock = some i → ((Value.slice A174 l176.length c175)).ownBlock = some i → False := fun i hi hs => by rcases hg172 i hs with h | h; (exact oo144 i hi h); (have := (World.ownsRow.lt hO138 i hi).2; omega)
      have oo185 : ∀ i, ((Value.slice A174 l176.length c175)).ownBlock = some i → ((Value.slice A133 ((actS S (plainE o)).length) c134)).ownBlock = some i → False := fun i hi hs => oo184 i hs hi
      have K173 := hK171
      have hsz186 := K95.size
      replace K95 := K95.trans K173 (U := (fun i => i = r ∨ ((Value.slice A S.length c)).ownBlock = some i ∨ ((Value.slice B K.length d)).ownBlock = some i)) (fun i h1 h2 => h2) (fun i h1 h2 => by have h2 : ((Value.slice B K.length d)).ownBlock = some i := h2; exact .inr (.inr (h2)))
      replace H137 := H137.keep K173 (by intro h; change ((Value.slice B K.length d)).ownBlock = some r at h; have := hne2 r h; omega)
      replace H97 := H97.keep K173 (by intro h; change ((Value.slice B K.length d)).ownBlock = some b1 at h; have := ob8 b1 h; omega)
      replace H98 := H98.keep K173 (by intro h; change ((Value.slice B K.length d)).ownBlock = some b9 at h; have := ob16 b9 h; omega)
      replace H155 := H155.keep K173 (by intro h; change ((Value.slice B K.length d)).ownBlock = some b146 at h; have := ob152 b146 h; omega)
      replace H162 := H162.keep K173 (by intro h; change ((Value.slice B K.length d)).ownBlock = some b159 at h; have := ob165 b159 h; omega)
      clear hC1
      replace hO138 := own_keep hO138 K173 (fun i hi hs => by have hs : ((Value.slice B K.length d)).ownBlock = some i := hs; exact oo144 i hi hs)
      refine Dr.go (i := 9) (v := (Value.slice A174 l176.length c175)) (by kernel_rfl) (by kernel_rfl) (Runs.append (ts := #[43, 43]) (ty := 43) (vs := [(Value.slice B K.length d), (Value.slice (some ⟨b159, 0, none⟩) 1 1)]) (by kernel_rfl) hr169) (d := (some 107)) (by kernel_rfl) rfl (K173.mono (fun i _ h => by have h : ((Value.slice B K.length d)).ownBlock = some i := h; show ((Value.slice B K.length d)).ownBlock = some i ∨ i = r; exact (.inl h))) ?_
      refine Dr.strong (S' := (fun wz => Keeps (fun i => ((Value.slice B K.length d)).ownBlock = some i ∨ i = r) w168 wz)) ((Keeps.refl w168).mono (fun _ _ h => h.elim)) (fun wz hx => K173.trans hx (fun i _ h => by have h : ((Value.slice B K.length d)).ownBlock = some i := h; show ((Value.slice B K.length d)).ownBlock = some i ∨ i = r; exact (.inl h)) (fun _ _ h => h)) ?_
      have hgw187 : ∀ i, ((Value.slice A174 l176.length c175)).ownBlock = some i → ((Value.slice B K.length d)).ownBlock = some i ∨ w.heap.size ≤ i := fun i hi => (hg172 i hi).imp id (Nat.le_trans hsz186)
      clear K173 hr169 hK171 hg172
      refine Dr.takes (fuel' := 1) (is' := [11, 10, 9, 4, 8, 7, 6, 5, 3, 2, 1, 0]) [10, 11] [(4, (ptr b9)), (11, (ptr b146)), (107, (Value.slice A174 l176.length c175)), (109, (Value.pointer (some ⟨r, 1, none⟩)))] (by kernel_rfl) rfl (by kernel_rfl) ?_
      refine Dr.put (i := 12) (t := 43) (b := r) (off := 1) (v := (Value.slice A174 l176.length c175)) (ys := [(Value.slice A133 ((actS S (plainE o)).length) c134), (Value.slice A174 l176.length c175)]) (by kernel_rfl) (by kernel_rfl) (by kernel_rfl) H137 (by kernel_rfl) (d := none) (by kernel_rfl) rfl (fun w188 H189 K190 => ?_)
      clear H137
      replace K95 := K95.trans K190 (U := (fun i => i = r ∨ ((Value.slice A S.length c)).ownBlock = some i ∨ ((Value.slice B K.length d)).ownBlock = some i)) (fun i h1 h2 => h2) (fun i h1 h2 => by have h2 : i = r := h2; exact .inl h2)
      replace H97 := H97.keep K190 (by intro h; change b1 = r at h; omega)
      replace H98 := H98.keep K190 (by intro h; change b9 = r at h; omega)
      replace H155 := H155.keep K190 (by intro h; change b146 = r at h; omega)
      replace H162 := H162.keep K190 (by intro h; change b159 = r at h; omega)
      replace hO138 := own_keep hO138 K190 (fun i hi hs => by have hs : i = r := hs; have := ob140 i hi; omega)
      replace hO170 := own_keep hO170 K190 (fun i hi hs => by have hs : i = r := hs; have := ob179 i hi; omega)
      refine ⟨(K190.mono (fun i _ h => by have h : i = r := h; show ((Value.slice B K.length d)).ownBlock = some i ∨ i = r; exact (.inr h))), ?_⟩
      refine Dr.strong (S' := (fun wz => Keeps (fun i => ((Value.slice B K.length d)).ownBlock = some i ∨ i = r) w188 wz)) ((Keeps.refl w188).mono (fun _ _ h => h.elim)) (fun wz hx => K190.trans hx (fun i _ h => by have h : i = r := h; show ((Value.slice B K.length d)).ownBlock = some i ∨ i = r; exact (.inr h)) (fun _ _ h => h)) ?_
      clear K190
      refine Dr.done (by kernel_rfl) ?_
      refine qs ?_
      refine qg ?_
      refine Ops.go (v := (agg [(i64 (actE S (plainE o))), (i64 0), (Value.slice none 0 0)])) (by kernel_rfl) (Runs.load (t := 30) (a := ⟨b146, 0, none⟩) (by kernel_rfl) (H155.loads (by kernel_rfl))) (d := (some 110)) (by kernel_rfl) rfl ?_
      refine Ops.put (t := 30) (b := b9) (off := 0) (v := (agg [(i64 (actE S (plainE o))), (i64 0), (Value.slice none 0 0)])) (ys := [(i64 (actE S (plainE o))), (i64 0), (Value.slice none 0 0)]) (by kernel_rfl) (by kernel_rfl) H98 (by kernel_rfl) (d := none) (by kernel_rfl) rfl (fun w191 H192 K193 => ?_)
      clear H98
      replace K95 := K95.trans K193 (U := (fun i => i = r ∨ ((Value.slice A S.length c)).ownBlock = some i ∨ ((Value.slice B K.length d)).ownBlock = some i)) (fun i h1 h2 => h2) (fun i h1 h2 => by have h2 : i = b9 := h2; exfalso; omega)
      replace H189 := H189.keep K193 (by intro h; change r = b9 at h; omega)
      replace H97 := H97.keep K193 (by intro h; change b1 = b9 at h; omega)
      replace H155 := H155.keep K193 (by intro h; change b146 = b9 at h; omega)
      replace H162 := H162.keep K193 (by intro h; change b159 = b9 at h; omega)
      replace hO138 := own_keep hO138 K193 (fun i hi hs => by have hs : i = b9 := hs; have := ob142 i hi; omega)
      replace hO170 := own_keep hO170 K193 (fun i hi hs => by have hs : i = b9 := hs; have := ob181 i hi; omega)
      clear K193
      refine od ?_
      refine q_ret (by kernel_rfl) ?_
      refine ⟨(agg [(i64 (actE S (plainE o))), (i64 0), (Value.slice none 0 0)]), retv_cell rfl rfl (H192.loads (by kernel_rfl)), ?_⟩
      have e0 := do_fresh (S := S) (K := K) (o := o) hw (by omega) (by omega) (by omega) hfk
      obtain ⟨e1, e2, e3⟩ := e0
      have hnn9 := oo184
      rw [hl177] at H189 hO170 hgw187 hnn9
      rw [e1, e2, e3]
      exact ⟨_, _, _, _, none, 0, rfl, K95, H189, hO138, hO170, (OwnT.nil _ _ _ _ _), hgw145, hgw187, hnn9, (fun i h => by cases h), (fun i h => by cases h)⟩
end Go.Proofs.YtnfeemhpoaflfaaGreatDoor
