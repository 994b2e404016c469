/- Accounts: what a book is, and what its calls make of it. -/
import Derived.Test.YtooginpgclcldaaGreatDoorOA
import Derived.Test.YtooginpgclcldaaGreatDoorLC
set_option linter.unusedVariables false
namespace Go.Q
structure AccM where
  name : List UInt8
  amt : Int
  own : List UInt8
deriving DecidableEq
abbrev AccV := Int × List UInt8
def accv (a : AccV) : Value := agg [i64 a.1, .string (str a.2)]
def AccM.pair (a : AccM) : List UInt8 × AccV := (a.name, a.amt, a.own)
def letterB (c : UInt8) : Bool := decide ((97 ≤ c.toNat ∧ c.toNat ≤ 122) ∨ (48 ≤ c.toNat ∧ c.toNat ≤ 57) ∨ c.toNat = 95)
def nameOk (s : List UInt8) : Bool := decide (1 ≤ s.length ∧ s.length ≤ 24) && s.all letterB
structure AccM.Ok (a : AccM) : Prop where
  name : nameOk a.name = true
  lo : 0 ≤ a.amt
  hi : a.amt ≤ 9223372036854775807
  own : a.own.length ≤ 65536
abbrev ltN (a b : List UInt8) : Prop := a < b
/-- Accounts as they can be, in the order of their names. -/
structure Accs (S : List AccM) : Prop where
  sorted : S.Pairwise (fun a b => ltN a.name b.name)
  ok : ∀ a ∈ S, a.Ok
  len : S.length ≤ 200
/-- The map m holds the accounts S. -/
structure Book (m : List (List UInt8 × AccV)) (S : List AccM) : Prop where
  accs : Accs S
  perm : (S.map AccM.pair).Perm m

theorem ltN_irrefl (a : List UInt8) : ¬ ltN a a := List.lt_irrefl a
theorem ltN_trans {a b c : List UInt8} (h : ltN a b) (k : ltN b c) : ltN a c := List.lt_trans h k
theorem ltN_or (a b : List UInt8) : ltN a b ∨ a = b ∨ ltN b a := by
  rcases List.le_total a b with h | h
  · rcases List.le_iff_lt_or_eq.1 h with h | h
    · exact .inl h
    · exact .inr (.inl h)
  · rcases List.le_iff_lt_or_eq.1 h with h | h
    · exact .inr (.inr h)
    · exact .inr (.inl h.symm)

def getS (S : List AccM) (n : List UInt8) : Option AccM := S.find? (fun a => decide (a.name = n))
def setS (S : List AccM) (n : List UInt8) (x : AccV) : List AccM := S.map fun a => if a.name = n then ⟨n, x.1, x.2⟩ else a
def insS : List AccM → AccM → List AccM
  | [], a => [a]
  | b :: S, a => if b.name < a.name then b :: insS S a else a :: b :: S
def putE (S : List AccM) (n : List UInt8) (k : Int) : Int :=
  if nameOk n = false then 46 else if k < 0 then 47 else if (getS S n).isSome then 41 else if 200 ≤ S.length then 4 else 0
def putS (S : List AccM) (n : List UInt8) (k : Int) : List AccM := if putE S n k = 0 then insS S ⟨n, k, []⟩ else S
/-- What is changed of an account: the error, and what it is then. -/
def addF (n : Int) (a : AccV) : Int × AccV := if n < 1 then (47, a) else if 9223372036854775807 - n < a.1 then (43, a) else (0, a.1 + n, a.2)
def takeF (n : Int) (a : AccV) : Int × AccV := if n < 1 then (47, a) else if a.1 < n then (42, a) else (0, a.1 - n, a.2)
def holdF (x : List UInt8) (a : AccV) : Int × AccV := if x = [] ∨ 65536 < x.length then (1, a) else if a.2 ≠ [] ∧ a.2 ≠ x then (5, a) else (0, a.1, x)
def freeF (x : List UInt8) (a : AccV) : Int × AccV := if x = [] ∨ a.2 ≠ x then (5, a) else (0, a.1, [])
def chgE (f : AccV → Int × AccV) (S : List AccM) (n : List UInt8) : Int := match getS S n with | none => 40 | some a => (f (a.amt, a.own)).1
def chgS (f : AccV → Int × AccV) (S : List AccM) (n : List UInt8) : List AccM := match getS S n with | none => S | some a => setS S n (f (a.amt, a.own)).2
def amtE (S : List AccM) (n : List UInt8) : Int × Int := match getS S n with | none => (0, 40) | some a => (a.amt, 0)
def ownE (S : List AccM) (n : List UInt8) : List UInt8 := match getS S n with | none => [] | some a => a.own
def heldN (S : List AccM) : Nat := (S.filter fun a => decide (a.own ≠ [])).length
def slotB (s : List UInt8) : Nat := crcMore 0 s % 16
def AccM.row (a : AccM) : RowM := ⟨a.name, a.amt⟩
def inSlot (k : Int) (a : AccM) : Bool := decide (k = -1 ∨ ((slotB a.name : Nat) : Int) = k)
def rowsS (S : List AccM) (k : Int) : List RowM := (S.filter (inSlot k)).map AccM.row
def dropS (S : List AccM) (k : Int) : List AccM := if k < 0 then S else S.filter fun a => !(inSlot k a)
def dropN (S : List AccM) (k : Int) : Nat := if k < 0 then 0 else (rowsS S k).length
def accB (a : AccM) : List UInt8 := tv a.name ++ (iv a.amt ++ tv a.own)
def bookB (S : List AccM) : List UInt8 := uv S.length ++ S.flatMap accB

theorem getS_some {S : List AccM} {n : List UInt8} {a : AccM} (h : getS S n = some a) : a ∈ S ∧ a.name = n := by
  unfold getS at h
  exact ⟨List.mem_of_find?_eq_some h, by simpa using List.find?_some h⟩
theorem getS_none {S : List AccM} {n : List UInt8} (h : getS S n = none) : ∀ a ∈ S, a.name ≠ n := by
  unfold getS at h
  rw [List.find?_eq_none] at h
  intro a ha
  simpa using h a ha
theorem Accs.nil : Accs [] := ⟨List.Pairwise.nil, fun a h => (by cases h), by simp⟩
theorem Accs.nodup {S : List AccM} (h : Accs S) : (S.map (·.name)).Nodup := by
  refine List.pairwise_map.2 (h.sorted.imp fun hlt e => ?_)
  exact ltN_irrefl _ (by rw [e] at hlt; exact hlt)
theorem Accs.get_of {S : List AccM} (h : Accs S) {a : AccM} (ha : a ∈ S) : getS S a.name = some a := by
  unfold getS
  have hs := h.sorted
  clear h
  induction S with
  | nil => cases ha
  | cons b S ih =>
    rw [List.pairwise_cons] at hs
    rcases List.mem_cons.1 ha with rfl | ha
    · simp
    · rw [List.find?_cons_of_neg, ih ha hs.2]
      have := hs.1 a ha
      intro e
      have e : b.name = a.name := by simpa using e
      rw [e] at this
      exact ltN_irrefl _ this
theorem Book.nil : Book [] [] := ⟨Accs.nil, List.Perm.refl _⟩
theorem Book.len {m : List (List UInt8 × AccV)} {S : List AccM} (h : Book m S) : m.length = S.length := by have := h.perm.length_eq; simpa using this.symm
theorem pair_map_fst (S : List AccM) : (S.map AccM.pair).map (·.1) = S.map (·.name) := by rw [List.map_map]; rfl
theorem Book.nodup {m : List (List UInt8 × AccV)} {S : List AccM} (h : Book m S) : (m.map (·.1)).Nodup := by
  have := (h.perm.map (·.1)).nodup_iff.1 (by rw [pair_map_fst]; exact h.accs.nodup)
  exact this
theorem Book.get {m : List (List UInt8 × AccV)} {S : List AccM} (h : Book m S) (n : List UInt8) : getM m n = (getS S n).map fun a => (a.amt, a.own) := by
  cases hg : getS S n with
  | none =>
    rw [Option.map_none]
    refine getM_none fun hx => ?_
    have hx := (h.perm.map (·.1)).mem_iff.2 hx
    rw [pair_map_fst, List.mem_map] at hx
    obtain ⟨a, ha, e⟩ := hx
    exact getS_none hg a ha e
  | some a =>
    obtain ⟨ha, rfl⟩ := getS_some hg
    have hm : (a.name, a.amt, a.own) ∈ m := h.perm.mem_iff.1 (List.mem_map.2 ⟨a, ha, rfl⟩)
    obtain ⟨i, hi⟩ := List.getElem?_of_mem hm
    exact getM_at h.nodup hi rfl
theorem insS_perm : ∀ (S : List AccM) (a : AccM), (insS S a).Perm (S ++ [a])
  | [], a => List.Perm.refl _
  | b :: S, a => by
    unfold insS
    split
    · exact (insS_perm S a).cons b
    · exact (List.perm_append_comm (l₁ := [a]) (l₂ := b :: S))
theorem insS_sorted : ∀ {S : List AccM} {a : AccM}, S.Pairwise (fun a b => ltN a.name b.name) → (∀ b ∈ S, b.name ≠ a.name) → (insS S a).Pairwise (fun a b => ltN a.name b.name)
  | [], a, _, _ => by simp [insS]
  | b :: S, a, h, hn => by
    rw [List.pairwise_cons] at h
    unfold insS
    split
    · next hlt =>
      rw [List.pairwise_cons]
      refine ⟨fun c hc => ?_, insS_sorted h.2 fun c hc => hn c (List.mem_cons_of_mem _ hc)⟩
      rcases List.mem_append.1 ((insS_perm S a).mem_iff.1 hc) with hc | hc
      · exact h.1 c hc
      · rw [List.mem_singleton.1 hc]; exact hlt
    · next hlt =>
      have hba : ltN a.name b.name := by
        rcases ltN_or b.name a.name with h1 | h1 | h1
        · exact absurd h1 hlt
        · exact absurd h1 (hn b (List.mem_cons_self ..))
        · exact h1
      rw [List.pairwise_cons, List.pairwise_cons]
      refine ⟨fun c hc => ?_, h.1, h.2⟩
      rcases List.mem_cons.1 hc with rfl | hc
      · exact hba
      · exact ltN_trans hba (h.1 c hc)
theorem Accs.ins {S : List AccM} {a : AccM} (h : Accs S) (ha : a.Ok) (hg : getS S a.name = none) (hl : S.length < 200) : Accs (insS S a) where
  sorted := insS_sorted h.sorted (getS_none hg)
  ok b hb := by
    rcases List.mem_append.1 ((insS_perm S a).mem_iff.1 hb) with hb | hb
    · exact h.ok b hb
    · rw [List.mem_singleton.1 hb]; exact ha
  len := by rw [(insS_perm S a).length_eq, List.length_append]; simp only [List.length_singleton]; omega
theorem Accs.set {S : List AccM} {n : List UInt8} {x : AccV} (h : Accs S) (h0 : 0 ≤ x.1 ∧ x.1 ≤ 9223372036854775807) (hx : x.2.length ≤ 65536) : Accs (setS S n x) where
  sorted := by
    unfold setS
    refine List.pairwise_map.2 (h.sorted.imp fun {a b} hlt => ?_)
    have e : ∀ c : AccM, (if c.name = n then (⟨n, x.1, x.2⟩ : AccM) else c).name = c.name := by
      intro c
      split
      · next h => exact h.symm
      · rfl
    rw [e, e]
    exact hlt
  ok b hb := by
    unfold setS at hb
    obtain ⟨c, hc, rfl⟩ := List.mem_map.1 hb
    split
    · next hn => exact ⟨by rw [← hn]; exact (h.ok c hc).name, h0.1, h0.2, hx⟩
    · exact h.ok c hc
  len := by unfold setS; rw [List.length_map]; exact h.len
theorem Accs.filter {S : List AccM} (h : Accs S) (p : AccM → Bool) : Accs (S.filter p) where
  sorted := h.sorted.filter p
  ok b hb := h.ok b (List.mem_filter.1 hb).1
  len := Nat.le_trans (List.length_filter_le _ _) h.len
theorem putE_zero {S : List AccM} {n : List UInt8} {k : Int} (h : putE S n k = 0) : nameOk n = true ∧ 0 ≤ k ∧ getS S n = none ∧ S.length < 200 := by
  unfold putE at h
  split at h
  · cases h
  · split at h
    · cases h
    · split at h
      · cases h
      · split at h
        · cases h
        · next h1 h2 h3 h4 => exact ⟨by simpa using h1, by omega, by simpa using h3, by omega⟩
theorem Accs.put {S : List AccM} {n : List UInt8} {k : Int} (h : Accs S) (hk : k ≤ 9223372036854775807) : Accs (putS S n k) := by
  unfold putS
  split
  · next h0 =>
    obtain ⟨h1, h2, h3, h4⟩ := putE_zero h0
    exact h.ins ⟨h1, h2, hk, by simp⟩ h3 h4
  · exact h
theorem Book.put {m : List (List UInt8 × AccV)} {S : List AccM} (h : Book m S) {n : List UInt8} {k : Int} (hk : k ≤ 9223372036854775807) (h0 : putE S n k = 0) : Book (putM m n (k, [])) (putS S n k) where
  accs := h.accs.put hk
  perm := by
    obtain ⟨h1, h2, h3, h4⟩ := putE_zero h0
    have hm : n ∉ m.map (·.1) := getM_not (by rw [h.get, h3]; rfl)
    unfold putS putM
    rw [if_pos h0, if_neg hm]
    have := (insS_perm S ⟨n, k, []⟩).map AccM.pair
    refine this.trans ?_
    rw [List.map_append]
    exact h.perm.append_right _
theorem Book.keep {m : List (List UInt8 × AccV)} {S : List AccM} (h : Book m S) {n : List UInt8} {k : Int} (h0 : putE S n k ≠ 0) : Book m (putS S n k) := by
  unfold putS; rw [if_neg h0]; exact h
/-- What is changed of an account leaves it as one can be. -/
def Calm (f : AccV → Int × AccV) : Prop := ∀ a : AccV, 0 ≤ a.1 → a.1 ≤ 9223372036854775807 → a.2.length ≤ 65536 → (0 ≤ (f a).2.1 ∧ (f a).2.1 ≤ 9223372036854775807) ∧ (f a).2.2.length ≤ 65536
theorem calm_add (n : Int) : Calm (addF n) := by
  intro a h0 h1 h2
  unfold addF
  split
  · exact ⟨⟨h0, h1⟩, h2⟩
  · split
    · exact ⟨⟨h0, h1⟩, h2⟩
    · exact ⟨⟨by show 0 ≤ a.1 + n; omega, by show a.1 + n ≤ _; omega⟩, h2⟩
theorem calm_take (n : Int) : Calm (takeF n) := by
  intro a h0 h1 h2
  unfold takeF
  split
  · exact ⟨⟨h0, h1⟩, h2⟩
  · split
    · exact ⟨⟨h0, h1⟩, h2⟩
    · exact ⟨⟨by show 0 ≤ a.1 - n; omega, by show a.1 - n ≤ _; omega⟩, h2⟩
theorem calm_hold (x : List UInt8) : Calm (holdF x) := by
  intro a h0 h1 h2
  unfold holdF
  split
  · exact ⟨⟨h0, h1⟩, h2⟩
  · split
    · exact ⟨⟨h0, h1⟩, h2⟩
    · exact ⟨⟨h0, h1⟩, by show x.length ≤ _; omega⟩
theorem calm_free (x : List UInt8) : Calm (freeF x) := by
  intro a h0 h1 h2
  unfold freeF
  split
  · exact ⟨⟨h0, h1⟩, h2⟩
  · exact ⟨⟨h0, h1⟩, by simp⟩
theorem Accs.chg {S : List AccM} {f : AccV → Int × AccV} (h : Accs S) (hf : Calm f) (n : List UInt8) : Accs (chgS f S n) := by
  unfold chgS
  split
  · exact h
  · next a hg =>
    have ho := h.ok a (getS_some hg).1
    have := hf (a.amt, a.own) ho.lo ho.hi ho.own
    exact h.set this.1 this.2
theorem Book.chg {m : List (List UInt8 × AccV)} {S : List AccM} (h : Book m S) {f : AccV → Int × AccV} (hf : Calm f) {n : List UInt8} {a : AccM} (hg : getS S n = some a) : Book (putM m n (f (a.amt, a.own)).2) (chgS f S n) where
  accs := h.accs.chg hf n
  perm := by
    have hm : n ∈ m.map (·.1) := getM_key (by rw [h.get, hg]; rfl)
    unfold chgS putM
    rw [hg, if_pos hm]
    have := h.perm.map (fun y : List UInt8 × AccV => if y.1 = n then (n, (f (a.amt, a.own)).2) else y)
    refine List.Perm.trans (List.Perm.of_eq ?_) this
    unfold setS
    rw [List.map_map, List.map_map]
    refine List.map_congr_left fun b _ => ?_
    by_cases hb : b.name = n <;> simp [AccM.pair, hb]
theorem Book.none {m : List (List UInt8 × AccV)} {S : List AccM} (h : Book m S) {f : AccV → Int × AccV} {n : List UInt8} (hg : getS S n = none) : Book m (chgS f S n) := by unfold chgS; rw [hg]; exact h
theorem delM_perm {m m' : List (List UInt8 × AccV)} (h : m.Perm m') (x : List UInt8) : (delM m x).Perm (delM m' x) := h.filter _
theorem Book.del {m : List (List UInt8 × AccV)} {S : List AccM} (h : Book m S) (x : List UInt8) : Book (delM m x) (S.filter fun a => decide (a.name ≠ x)) where
  accs := h.accs.filter _
  perm := by
    refine List.Perm.trans (List.Perm.of_eq ?_) (delM_perm h.perm x)
    unfold delM
    rw [List.filter_map]
    rfl
end Go.Q
