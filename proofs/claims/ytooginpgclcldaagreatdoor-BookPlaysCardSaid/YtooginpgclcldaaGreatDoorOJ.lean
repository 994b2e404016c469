/- Who holds an account plays no part in what is in it. -/
import Derived.Test.YtooginpgclcldaaGreatDoorOF
set_option linter.unusedVariables false
namespace Go.Q
theorem str_append (a b : List UInt8) : str a ++ str b = str (a ++ b) := by
  apply ByteArray.ext
  simp [str]
theorem Runs.stradd {P : Program} {L : Loc} {o : Oper} {w : World} {t : TypeId} {a b : List UInt8} (h : bin? L o = some (.add, t, .string (str a), .string (str b))) (hl : a.length + b.length ≤ 9223372036854775807) : Runs P L o w (.string (str (a ++ b))) w := by
  refine Runs.bin h (fun _ _ => by simp [eqGuard, Sem.run_pure]) ?_
  have e1 : (str a).size = a.length := rfl
  have e2 : (str b).size = b.length := rfl
  have hm : IntKind.i64.max = 9223372036854775807 := by decide
  simp only [binOp, Op.stringOp, e1, e2, hm]
  rw [if_neg (by omega), str_append]
  rfl
def RowEq (S R : List AccM) : Prop := S.map AccM.row = R.map AccM.row
theorem RowEq.len {S R : List AccM} (h : RowEq S R) : S.length = R.length := by simpa using congrArg List.length h
theorem RowEq.all {S R : List AccM} (h : RowEq S R) : rowsS S (-1) = rowsS R (-1) := by rw [rows_all, rows_all]; exact h
theorem RowEq.get {S R : List AccM} (h : RowEq S R) (n : List UInt8) : (getS S n).map AccM.row = (getS R n).map AccM.row := by
  unfold getS
  induction S generalizing R with
  | nil =>
    cases R with
    | nil => rfl
    | cons b R => cases h
  | cons a S ih =>
    cases R with
    | nil => cases h
    | cons b R =>
      simp only [RowEq, List.map_cons, List.cons.injEq] at h
      have hn : a.name = b.name := congrArg RowM.name h.1
      rw [List.find?_cons, List.find?_cons, hn]
      by_cases e : b.name = n
      · simp [e, h.1]
      · simpa [e] using ih h.2
theorem RowEq.some {S R : List AccM} (h : RowEq S R) {n : List UInt8} {a : AccM} (ha : getS S n = some a) : ∃ b, getS R n = some b ∧ b.amt = a.amt := by
  have := h.get n
  rw [ha] at this
  cases hb : getS R n with
  | none => rw [hb] at this; cases this
  | some b => rw [hb] at this; exact ⟨b, rfl, (congrArg RowM.amount (Option.some.inj this)).symm⟩
theorem RowEq.none {S R : List AccM} (h : RowEq S R) {n : List UInt8} (ha : getS S n = none) : getS R n = none := by
  have := h.get n
  rw [ha] at this
  cases hb : getS R n with
  | none => rfl
  | some b => rw [hb] at this; cases this
theorem RowEq.putE {S R : List AccM} (h : RowEq S R) (n : List UInt8) (k : Int) : putE S n k = putE R n k := by
  have hs : (getS S n).isSome = (getS R n).isSome := by
    cases ha : getS S n with
    | none => rw [h.none ha]
    | some a => obtain ⟨b, hb, _⟩ := h.some ha; rw [hb]; rfl
  unfold Go.Q.putE
  rw [hs, h.len]
theorem row_ins : ∀ {S R : List AccM} (a : AccM), S.map AccM.row = R.map AccM.row → (insS S a).map AccM.row = (insS R a).map AccM.row
  | [], [], a, _ => rfl
  | [], _ :: _, a, h => by cases h
  | _ :: _, [], a, h => by cases h
  | b :: S, c :: R, a, h => by
    simp only [List.map_cons, List.cons.injEq] at h
    have hn : b.name = c.name := congrArg RowM.name h.1
    unfold insS
    rw [hn]
    split
    · rw [List.map_cons, List.map_cons, h.1, row_ins a h.2]
    · rw [List.map_cons, List.map_cons, List.map_cons, List.map_cons, h.1, h.2]
theorem RowEq.putS {S R : List AccM} (h : RowEq S R) (n : List UInt8) (k : Int) : RowEq (putS S n k) (putS R n k) := by
  unfold Go.Q.putS
  rw [h.putE]
  split
  · exact row_ins _ h
  · exact h
theorem row_set : ∀ {S R : List AccM} (n : List UInt8) (x y : AccV), x.1 = y.1 → S.map AccM.row = R.map AccM.row → (setS S n x).map AccM.row = (setS R n y).map AccM.row
  | [], [], n, x, y, _, _ => rfl
  | [], _ :: _, _, _, _, _, h => by cases h
  | _ :: _, [], _, _, _, _, h => by cases h
  | b :: S, c :: R, n, x, y, hx, h => by
    simp only [List.map_cons, List.cons.injEq] at h
    have hn : b.name = c.name := congrArg RowM.name h.1
    have ih := row_set n x y hx h.2
    unfold setS at ih ⊢
    simp only [List.map_cons, List.cons.injEq]
    refine ⟨?_, ih⟩
    rw [hn]
    split
    · show (⟨n, x.1⟩ : RowM) = ⟨n, y.1⟩; rw [hx]
    · exact h.1
/-- What is changed of an amount does not look at who holds it. -/
def Blind (f : AccV → Int × AccV) : Prop := ∀ k o o', (f (k, o)).1 = (f (k, o')).1 ∧ (f (k, o)).2.1 = (f (k, o')).2.1
theorem blind_add (n : Int) : Blind (addF n) := fun k o o' => by unfold addF; simp only; split; (exact ⟨rfl, rfl⟩); split <;> exact ⟨rfl, rfl⟩
theorem blind_take (n : Int) : Blind (takeF n) := fun k o o' => by unfold takeF; simp only; split; (exact ⟨rfl, rfl⟩); split <;> exact ⟨rfl, rfl⟩
theorem RowEq.chgE {S R : List AccM} (h : RowEq S R) {f : AccV → Int × AccV} (hf : Blind f) (n : List UInt8) : chgE f S n = chgE f R n := by
  unfold Go.Q.chgE
  cases ha : getS S n with
  | none => rw [h.none ha]
  | some a =>
    obtain ⟨b, hb, e⟩ := h.some ha
    rw [hb]
    simp only [← e]
    exact ((hf b.amt b.own a.own).1).symm
theorem RowEq.chgS {S R : List AccM} (h : RowEq S R) {f : AccV → Int × AccV} (hf : Blind f) (n : List UInt8) : RowEq (chgS f S n) (chgS f R n) := by
  unfold Go.Q.chgS
  cases ha : getS S n with
  | none => rw [h.none ha]; exact h
  | some a =>
    obtain ⟨b, hb, e⟩ := h.some ha
    rw [hb]
    simp only [← e]
    exact row_set n _ _ ((hf b.amt b.own a.own).2).symm h
theorem set_rows {S : List AccM} {n : List UInt8} {x : AccV} {a : AccM} (hS : Accs S) (ha : getS S n = some a) (hx : x.1 = a.amt) : (setS S n x).map AccM.row = S.map AccM.row := by
  unfold setS
  rw [List.map_map]
  refine List.map_congr_left fun b hb => ?_
  show (if b.name = n then (⟨n, x.1, x.2⟩ : AccM) else b).row = b.row
  split
  · next hn =>
    have := hS.get_of hb
    rw [hn, ha] at this
    obtain rfl := Option.some.inj this
    show (⟨n, x.1⟩ : RowM) = ⟨a.name, a.amt⟩
    rw [hn, hx]
  · rfl
theorem hold_amt (x : List UInt8) (v : AccV) : (holdF x v).2.1 = v.1 := by unfold holdF; split; (rfl); split <;> rfl
theorem RowEq.hold {S R : List AccM} (h : RowEq S R) (hR : Accs R) (x n : List UInt8) : RowEq S (Go.Q.chgS (holdF x) R n) := by
  unfold Go.Q.chgS
  cases ha : getS R n with
  | none => exact h
  | some a => exact h.trans (set_rows hR ha (hold_amt x _)).symm
/-- Nobody holds an account. -/
def NoOwn (S : List AccM) : Prop := ∀ a ∈ S, a.own = []
theorem NoOwn.held {S : List AccM} (h : NoOwn S) : heldN S = 0 := by
  unfold heldN
  rw [List.length_eq_zero_iff, List.filter_eq_nil_iff]
  intro a ha
  simp [h a ha]
theorem NoOwn.put {S : List AccM} (h : NoOwn S) (n : List UInt8) (k : Int) : NoOwn (putS S n k) := by
  unfold putS
  split
  · intro a ha
    rcases List.mem_append.1 ((insS_perm S _).mem_iff.1 ha) with ha | ha
    · exact h a ha
    · rw [List.mem_singleton.1 ha]
  · exact h
theorem NoOwn.chg {S : List AccM} (h : NoOwn S) {f : AccV → Int × AccV} (hf : ∀ v, (f v).2.2 = v.2) (n : List UInt8) : NoOwn (chgS f S n) := by
  unfold chgS
  cases ha : getS S n with
  | none => exact h
  | some a =>
    intro b hb
    unfold setS at hb
    obtain ⟨c, hc, rfl⟩ := List.mem_map.1 hb
    split
    · show (f (a.amt, a.own)).2.2 = []; rw [hf]; exact h a (getS_some ha).1
    · exact h c hc
theorem add_own (n : Int) (v : AccV) : (addF n v).2.2 = v.2 := by unfold addF; split; (rfl); split <;> rfl
theorem take_own (n : Int) (v : AccV) : (takeF n v).2.2 = v.2 := by unfold takeF; split; (rfl); split <;> rfl
theorem set_same {S : List AccM} {n : List UInt8} {a : AccM} (hS : Accs S) (ha : getS S n = some a) : setS S n (a.amt, a.own) = S := by
  unfold setS
  refine (List.map_congr_left fun b hb => ?_).trans (List.map_id S)
  show (if b.name = n then (⟨n, a.amt, a.own⟩ : AccM) else b) = b
  split
  · next hn =>
    have := hS.get_of hb
    rw [hn, ha] at this
    obtain rfl := Option.some.inj this
    rw [← hn]
  · rfl
theorem held_by {S : List AccM} {n by_ : List UInt8} (ho : ownE S n = by_) (hb : by_ ≠ []) : ∃ a, getS S n = some a ∧ a.own = by_ := by
  unfold ownE at ho
  cases ha : getS S n with
  | none => rw [ha] at ho; exact absurd ho.symm hb
  | some a => rw [ha] at ho; exact ⟨a, rfl, ho⟩
theorem hold_other {S : List AccM} {n by_ x : List UInt8} (hS : Accs S) (ho : ownE S n = by_) (hb : by_ ≠ []) (hx : x ≠ by_) (hx0 : x ≠ []) (hl : x.length ≤ 65536) : chgE (holdF x) S n = 5 ∧ chgS (holdF x) S n = S := by
  obtain ⟨a, ha, rfl⟩ := held_by ho hb
  have e : holdF x (a.amt, a.own) = (5, a.amt, a.own) := by
    unfold holdF
    rw [if_neg (by rintro (h | h); (exact hx0 h); omega), if_pos ⟨hb, fun h => hx h.symm⟩]
  unfold chgE chgS
  rw [ha]
  simp only [e]
  exact ⟨trivial, set_same hS ha⟩
theorem free_other {S : List AccM} {n by_ x : List UInt8} (hS : Accs S) (ho : ownE S n = by_) (hb : by_ ≠ []) (hx : x ≠ by_) : chgE (freeF x) S n = 5 ∧ chgS (freeF x) S n = S := by
  obtain ⟨a, ha, rfl⟩ := held_by ho hb
  have e : freeF x (a.amt, a.own) = (5, a.amt, a.own) := by
    unfold freeF
    rw [if_pos (.inr fun h => hx h.symm)]
  unfold chgE chgS
  rw [ha]
  simp only [e]
  exact ⟨trivial, set_same hS ha⟩
theorem more_ne (a : List UInt8) : a ++ [120] ≠ a ∧ a ++ [120] ≠ [] := by
  constructor
  · intro h; have := congrArg List.length h; simp at this
  · simp
end Go.Q
